/-
  Layers 0 to 14: helps of the laws of indexes. No statement is proved here; no condition.
-/
import Derived.Test.YtmppeipgjcjdkaaGreatDoorW07
import Derived.Lib.Strings
namespace Go.Proofs.YtmppeipgjcjdkaaGreatDoor
open _root_.Go.Proofs.Tryz
open Go.RowKit Go.Maps
def pref (q l:List UInt8):Bool:=decide (l.take q.length=q)
theorem slice_str (l:List UInt8) (n:Nat) (hn:n<=l.length) (W:World):(Instr.slice 9 (.string ⟨l.toArray⟩) none (some (.int .i64 (n:Int))) none).run prog W=.ok (.string ⟨(l.take n).toArray⟩) W:=by
 rw [run_slice_string_h W 9 _ underlying9 .i64 (n:Int) (by omega) (by rw [str_size_list];omega)]
 congr 2
 apply ByteArray.ext
 apply Array.toList_inj.1
 rw [Lib.extract_data]
 simp
set_option maxRecDepth 100000 in
theorem lpref_any (q l:List UInt8) (w:World) :
  Calls prog 172 #[.string ⟨l.toArray⟩,.string ⟨q.toArray⟩] w fun e w'=>e=.returned (.bool (pref q l))/\w'=w:=by
 refine calls_hide fun R hR=>?_
 have h1:=str_size_list l
 have h2:=str_size_list q
 by_cases h:q.length<=l.length
 ·have hs:=slice_str l q.length h w
  have HP:=zh (show pref q l=((⟨(l.take q.length).toArray⟩:ByteArray).toList == (⟨q.toArray⟩:ByteArray).toList) by
   unfold pref
   rw [ByteArray.toList_eq,ByteArray.toList_eq,Bool.eq_iff_iff]
   simp)
  generalize hL:(⟨l.toArray⟩:ByteArray)=L at *
  generalize hQ:(⟨q.toArray⟩:ByteArray)=Q at *
  generalize hT:(⟨(l.take q.length).toArray⟩:ByteArray)=T at *
  rw [<- h2] at hs
  have hle:(Q.size:Int)<=(L.size:Int):=by omega
  clear hL hQ hT h1 h2 h
  go_enter func172,ntmps172
  go_wp2_with fail
  exact fin hR ⟨by rw [HP.out];rfl,rfl⟩
 ·have HP:=zh (show pref q l=false by
   unfold pref
   refine decide_eq_false fun e=>h ?_
   have:=congrArg List.length e
   rw [List.length_take] at this;omega)
  generalize hL:(⟨l.toArray⟩:ByteArray)=L at *
  generalize hQ:(⟨q.toArray⟩:ByteArray)=Q at *
  have hle:(L.size:Int) < (Q.size:Int):=by omega
  clear hL hQ h1 h2 h
  go_enter func172,ntmps172
  go_wp2_with fail
  exact fin hR ⟨by rw [HP.out];rfl,rfl⟩
theorem pref_any (q l:List UInt8) (w:World) :
  Calls prog 113 #[.string ⟨l.toArray⟩,.string ⟨q.toArray⟩] w fun e w'=>e=.returned (.bool (pref q l))/\w'=w:=by
 refine calls_hide fun R hR=>?_
 have HC:=zh (lpref_any q l w)
 generalize (⟨l.toArray⟩:ByteArray)=L at *
 generalize (⟨q.toArray⟩:ByteArray)=Q at *
 go_enter func113,ntmps113
 go_wp2_with fail
 with_reducible refine HC.out.mono ?_
 rintro e w' ⟨rfl,h2⟩
 subst h2
 go_wp2_with fail
 exact fin hR ⟨rfl,rfl⟩
end Go.Proofs.YtmppeipgjcjdkaaGreatDoor
