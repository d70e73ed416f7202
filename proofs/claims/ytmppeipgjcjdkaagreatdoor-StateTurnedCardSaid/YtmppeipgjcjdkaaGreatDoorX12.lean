/-
  Layers 0 to 14: helps of the laws of indexes. No statement is proved here; no condition.
-/
import Derived.Test.YtmppeipgjcjdkaaGreatDoorX11
import Derived.Test.YtmppeipgjcjdkaaGreatDoorX01
namespace Go.Proofs.YtmppeipgjcjdkaaGreatDoor
open _root_.Go.Proofs.Tryz
open Go.RowKit Go.Sort
def Gr (w w':World):Prop:=∃ q os,w'=grow (w.drewN q) os
theorem Gr.refl (w:World):Gr w w:=⟨0,#[],by rw [grow_empty];rfl⟩
theorem Gr.alloc {w0 w:World} (h:Gr w0 w) (o:Obj):Gr w0 (w.alloc o):=by
 obtain ⟨q,os,rfl⟩:=h
 exact ⟨q,os ++ #[o],by rw [alloc_eq_grow,grow_grow]⟩
/-! ### The sort, as a list -/
section
variable {α:Type} [Inhabited α]
theorem inner_list (lt:α->α->Bool):∀ (A:List α) (x:α) (R:List α),insInner lt 0 A.length ((A++x :: R).toArray)=(insR (lt x) x A++R).toArray:=by
 intro A
 induction h:A.length generalizing A with
 | zero =>
  intro x R
  rw [List.length_eq_zero_iff.1 h]
  rfl
 | succ n ih =>
  intro x R
  have hne:A ≠ []:=by intro e;rw [e] at h;cases h
  obtain ⟨B,y,rfl⟩:∃ B y,A=B++[y]:=⟨_,_,(List.dropLast_concat_getLast hne).symm⟩
  have hB:B.length=n:=by simpa using h
  subst hB
  have e1:((B++[y]++x :: R).toArray)[B.length+1]! = x:=by simp
  have e2:((B++[y]++x :: R).toArray)[B.length]! = y:=by simp
  rw [insInner,e1,e2]
  by_cases hl:lt x y=true
  ·rw [if_pos (by simp [hl])]
   have e3:swp ((B++[y]++x :: R).toArray) (B.length+1) B.length=((B++x :: (y :: R)).toArray):=by
    unfold swp
    rw [e1,e2]
    simp
   rw [e3,ih B rfl x (y :: R)]
   have e4:insR (lt x) x (B++[y])=insR (lt x) x B++[y]:=by
    unfold insR
    rw [List.reverse_append]
    show ((([y]++B.reverse).dropWhile (lt x)).reverse++x :: (([y]++B.reverse).takeWhile (lt x)).reverse)=_
    rw [List.singleton_append,List.dropWhile_cons,List.takeWhile_cons,if_pos hl,if_pos hl,List.reverse_cons]
    simp
   rw [e4]
   simp
  ·rw [if_neg (by simp [hl])]
   have e4:insR (lt x) x (B++[y])=B++[y]++[x]:=by
    unfold insR
    rw [List.reverse_append]
    show ((([y]++B.reverse).dropWhile (lt x)).reverse++x :: (([y]++B.reverse).takeWhile (lt x)).reverse)=_
    rw [List.singleton_append,List.dropWhile_cons,List.takeWhile_cons,if_neg hl,if_neg hl]
    simp
   rw [e4]
   simp
theorem outer_list (lt:α->α->Bool) (l:List α):∀ (d i:Nat),l.length=i+d->insOuter lt 0 l.length i ((sortR lt (l.take i)++l.drop i).toArray)=(sortR lt l).toArray:=by
 intro d
 induction d with
 | zero =>
  intro i hi
  rw [insOuter,if_neg (by omega),List.take_of_length_le (by omega),List.drop_eq_nil_of_le (by omega),List.append_nil]
 | succ d ih =>
  intro i hi
  have hlt:i < l.length:=by omega
  rw [insOuter,if_pos hlt,List.drop_eq_getElem_cons hlt]
  have hs:(sortR lt (l.take i)).length=i:=by rw [sortR_length,List.length_take];omega
  have h1:=inner_list lt (sortR lt (l.take i)) l[i] (l.drop (i+1))
  rw [hs] at h1
  rw [h1,<- sortR_take lt l hlt]
  exact ih (i+1) (by omega)
theorem sort_list (lt:α->α->Bool) (l:List α):insertionSort lt l.toArray 0 l.length=(sortR lt l).toArray:=by
 unfold insertionSort
 cases l with
 | nil=>rw [insOuter,if_neg (by simp)];rfl
 | cons x r =>
  have h:=outer_list lt (x :: r) r.length 1 (by simp;omega)
  have e:sortR lt ((x :: r).take 1)=[x]:=rfl
  rw [e] at h
  exact h
end
end Go.Proofs.YtmppeipgjcjdkaaGreatDoor
