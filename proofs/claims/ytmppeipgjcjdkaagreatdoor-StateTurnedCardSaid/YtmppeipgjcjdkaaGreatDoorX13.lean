/-
  Layers 0 to 14: helps of the laws of indexes. No statement is proved here; no condition.
-/
import Derived.Test.YtmppeipgjcjdkaaGreatDoorX01
import Derived.Shelf.SlSortFuncK.ComposeK
namespace Go.Proofs.YtmppeipgjcjdkaaGreatDoor
open _root_.Go.Proofs.Tryz
open Go.RowKit Go.Sort
theorem flat_list {α:Type} [Inhabited α] (enc:α->List Value) (k:Nat) (hk:∀ x,(enc x).length=k) (hk0:0 < k) (L:List α):flatK enc k L.toArray=(L.flatMap enc).toArray:=by
 have hl:=flat_length hk L
 refine ext_get! (by simp [hl]) fun t ht=>?_
 have ht2:t < L.length*k:=by simpa using ht
 rw [get_flatK _ _ _ _ (by simpa using ht2)]
 have hi:t / k < L.length:=Nat.div_lt_of_lt_mul (by rw [Nat.mul_comm];exact ht2)
 have hj:t % k < (enc L[t / k]).length:=by rw [hk];exact Nat.mod_lt _ hk0
 have h:=flat_get hk L hi (j:=t % k) (u:=(enc L[t / k])[t % k]) (List.getElem?_eq_getElem hj)
 rw [Nat.div_add_mod'] at h
 have e1:L.toArray[t / k]! = L[t / k]:=by simp [hi]
 rw [e1]
 have e2:(enc L[t / k])[t % k]! = (enc L[t / k])[t % k]:=by simp [hj]
 rw [e2]
 have e3:(L.flatMap enc).toArray[t]! = (L.flatMap enc)[t]?.getD default:=by simp
 rw [e3,h]
 rfl
theorem put_list (d old rest:List Value) (h:d.length=old.length):putCells id 0 d.toArray (old++rest).toArray=(d++rest).toArray:=by
 unfold putCells
 apply Array.ext
 ·simp [h]
 ·intro i h1 h2
  simp only [Array.getElem_mapIdx,Nat.zero_le,true_and,Nat.zero_add,List.size_toArray,id,Nat.sub_zero]
  by_cases hi:i < d.length
  ·rw [if_pos hi]
   simp [hi]
  ·rw [if_neg hi]
   simp only [List.getElem_toArray]
   rw [List.getElem_append_right (by omega),List.getElem_append_right (by omega)]
   simp [h]
theorem world_sort {α:Type} [Inhabited α] (enc:α->List Value) (k:Nat) (hk:∀ x,(enc x).length=k) (hk0:0 < k) {w:World} {g:Nat} {ty:TypeId} {L d:List α} {rest:List Value} (hd:d.length=L.length)
  (h:w.heap[g]? = some (.cells (L.flatMap enc++rest).toArray ty (0,0))) (n:Nat) (os:Array Obj) :
  (sortWorldK enc k w g 0 n d.toArray os).heap[g]? = some (.cells (d.flatMap enc++rest).toArray ty (0,0))/\Mod (fun p=>p=g) w (sortWorldK enc k w g 0 n d.toArray os):=by
 have hg:=lt_of_heap h
 have e:(sortWorldK enc k w g 0 n d.toArray os).heap=(w.heap.modify g (onCells (putCells id 0 (d.flatMap enc).toArray)))++os:=by
  unfold sortWorldK putRowK putRow grow mapBlock
  rw [flat_list enc k hk hk0 d]
  rfl
 constructor
 ·rw [e,Array.getElem?_append_left (by rw [Array.size_modify];exact hg),Array.getElem?_modify,if_pos rfl,h]
  show some (Obj.cells (putCells id 0 (d.flatMap enc).toArray (L.flatMap enc++rest).toArray) ty (0,0))=_
  rw [put_list _ _ _ (by rw [flat_length hk,flat_length hk,hd])]
 ·refine ⟨rfl,rfl,rfl,?_,fun i hi hn=>?_⟩
  ·rw [e];simp
  ·rw [e,Array.getElem?_append_left (by rw [Array.size_modify];exact hi),Array.getElem?_modify,if_neg (fun e=>hn e.symm)]
theorem holds_list {α:Type} [Inhabited α] (enc:α->List Value) (k:Nat) (hk:∀ x,(enc x).length=k) (hk0:0 < k) {w:World} {g:Nat} {ty:TypeId} {L:List α} {rest:List Value}
  (h:w.heap[g]? = some (.cells (L.flatMap enc++rest).toArray ty (0,0))):HoldsK enc k w g 0 L.toArray:=by
 intro j hj
 rw [flat_list enc k hk hk0] at hj ⊢
 have hj2:j < (L.flatMap enc).length:=by simpa using hj
 rw [Nat.zero_add]
 refine ⟨cell_of h ?_,frozen_of j h⟩
 rw [List.getElem?_append_left hj2,List.getElem?_eq_getElem hj2]
 show _=some ((L.flatMap enc).toArray[j]!)
 have e3:(L.flatMap enc).toArray[j]! = (L.flatMap enc)[j]?.getD default:=by simp
 rw [e3,List.getElem?_eq_getElem hj2]
 rfl
end Go.Proofs.YtmppeipgjcjdkaaGreatDoor
