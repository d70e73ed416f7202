/-
  Layers 0 to 14: helps of the laws of indexes. No statement is proved here; no condition.
-/
import Derived.Test.YtgiigemfbebcgaaGreatDoorT10
import Derived.Test.YtgiigemfbebcgaaGreatDoorT11
import Derived.Test.YtgiigemfbebcgaaGreatDoorT04
import Derived.Test.YtgiigemfbebcgaaGreatDoorT09
namespace Go.Proofs.YtgiigemfbebcgaaGreatDoor
open _root_.Go.Proofs.Tryz
open Go.RowKit Go.Sort
theorem flat_list {α:Type} [Inhabited α] (enc:α->List Value) (k:Nat) (hk:∀ x,(enc x).length=k) (hk0:0 < k) (L:List α):flatK enc k L.toArray=(L.flatMap enc).toArray:=by
 have hl:=flat_length hk L
 refine ext_get! (by simp [hl]) fun t ht=>?_
 have ht2:t < L.length*k:=by simpa using ht
 rw [get_flatK _ _ _ _ (by simpa using ht2)]
 have hi:t / k < L.length:=Nat.div_lt_of_lt_mul (by rw [Nat.mul_comm];exact ht2)
 have hj:t % k < (enc L[t / k]).length:=by rw [hk];exact Nat.mod_lt _ hk0
 have h:=flat_get hk L hi (j:=t % k) (u:=(enc L[t / k])[t % k]) (List.getElem?_eq_getElem hj)
 rw [Nat.div_add_mod'] at h
 have e1:L.toArray[t / k]! = L[t / k]:=by simp [hi]
 rw [e1]
 have e2:(enc L[t / k])[t % k]! = (enc L[t / k])[t % k]:=by simp [hj]
 rw [e2]
 have e3:(L.flatMap enc).toArray[t]! = (L.flatMap enc)[t]?.getD default:=by simp
 rw [e3,h]
 rfl
theorem put_list (d old rest:List Value) (h:d.length=old.length):putCells id 0 d.toArray (old++rest).toArray=(d++rest).toArray:=by
 unfold putCells
 apply Array.ext
 ·simp [h]
 ·intro i h1 h2
  simp only [Array.getElem_mapIdx,Nat.zero_le,true_and,Nat.zero_add,List.size_toArray,id,Nat.sub_zero]
  by_cases hi:i < d.length
  ·rw [if_pos hi]
   simp [hi]
  ·rw [if_neg hi]
   simp only [List.getElem_toArray]
   rw [List.getElem_append_right (by omega),List.getElem_append_right (by omega)]
   simp [h]
theorem world_sort {α:Type} [Inhabited α] (enc:α->List Value) (k:Nat) (hk:∀ x,(enc x).length=k) (hk0:0 < k) {w:World} {g:Nat} {ty:TypeId} {L d:List α} {rest:List Value} (hd:d.length=L.length)
  (h:w.heap[g]? = some (.cells (L.flatMap enc++rest).toArray ty (0,0))) (n:Nat) (os:Array Obj) :
  (sortWorldK enc k w g 0 n d.toArray os).heap[g]? = some (.cells (d.flatMap enc++rest).toArray ty (0,0))/\Mod (fun p=>p=g) w (sortWorldK enc k w g 0 n d.toArray os):=by
 have hg:=lt_of_heap h
 have e:(sortWorldK enc k w g 0 n d.toArray os).heap=(w.heap.modify g (onCells (putCells id 0 (d.flatMap enc).toArray)))++os:=by
  unfold sortWorldK putRowK putRow grow mapBlock
  rw [flat_list enc k hk hk0 d]
  rfl
 constructor
 ·rw [e,Array.getElem?_append_left (by rw [Array.size_modify];exact hg),Array.getElem?_modify,if_pos rfl,h]
  show some (Obj.cells (putCells id 0 (d.flatMap enc).toArray (L.flatMap enc++rest).toArray) ty (0,0))=_
  rw [put_list _ _ _ (by rw [flat_length hk,flat_length hk,hd])]
 ·refine ⟨rfl,rfl,rfl,?_,fun i hi hn=>?_⟩
  ·rw [e];simp
  ·rw [e,Array.getElem?_append_left (by rw [Array.size_modify];exact hi),Array.getElem?_modify,if_neg (fun e=>hn e.symm)]
theorem holds_list {α:Type} [Inhabited α] (enc:α->List Value) (k:Nat) (hk:∀ x,(enc x).length=k) (hk0:0 < k) {w:World} {g:Nat} {ty:TypeId} {L:List α} {rest:List Value}
  (h:w.heap[g]? = some (.cells (L.flatMap enc++rest).toArray ty (0,0))):HoldsK enc k w g 0 L.toArray:=by
 intro j hj
 rw [flat_list enc k hk hk0] at hj ⊢
 have hj2:j < (L.flatMap enc).length:=by simpa using hj
 rw [Nat.zero_add]
 refine ⟨cell_of h ?_,frozen_of j h⟩
 rw [List.getElem?_append_left hj2,List.getElem?_eq_getElem hj2]
 show _=some ((L.flatMap enc).toArray[j]!)
 have e3:(L.flatMap enc).toArray[j]! = (L.flatMap enc)[j]?.getD default:=by simp
 rw [e3,List.getElem?_eq_getElem hj2]
 rfl
structure NdY where
 n:Nd
 oa:Option Addr
 om:Nat
 oc:Nat
instance:Inhabited NdY:=⟨⟨⟨[],⟨false,[]⟩,[]⟩,none,0,0⟩⟩
def NdY.cells (x:NdY):List Value:=[strV x.n.name,.bool x.n.span.any,.slice x.oa x.om x.oc,strV x.n.text]
theorem NdY.len (x:NdY):x.cells.length=4:=rfl
theorem NdY.one (x:NdY):∀ v ∈ x.cells,v.oneCell'=true:=by
 intro v hv
 simp only [NdY.cells,List.mem_cons,List.not_mem_nil,or_false] at hv
 rcases hv with rfl | rfl | rfl | rfl <;> rfl
def cfNd (x y:NdY):Int:=cmpL x.n.name y.n.name
theorem cfNd_lt (x y:NdY):ltOf cfNd x y=ltNd x.n y.n:=by
 unfold ltOf cfNd cmpL ltNd
 by_cases h:x.n.name < y.n.name
 ·rw [if_pos h];simp [h]
 ·rw [if_neg h]
  by_cases h2:y.n.name < x.n.name
  ·simp [h,h2]
  ·simp [h,h2]
set_option maxRecDepth 100000 in
theorem byname_any (x y:NdY) (w:World):Calls prog 42 #[.agg x.cells.toArray,.agg y.cells.toArray] w fun e w'=>e=.returned (.int .i64 (cfNd x y))/\Gr w w':=by
 refine calls_hide fun R hR=>?_
 have HC:=zh (compareS_any x.n.name y.n.name)
 unfold cfNd NdY.cells at *
 obtain ⟨⟨nx,⟨ax,ox⟩,tx⟩,xa,xm,xc⟩:=x
 obtain ⟨⟨ny,⟨ay,oy⟩,ty⟩,ya,ym,yc⟩:=y
 dsimp only at *
 unfold strV at *
 generalize (⟨nx.toArray⟩:ByteArray)=A1 at *
 generalize (⟨ny.toArray⟩:ByteArray)=A2 at *
 generalize (⟨tx.toArray⟩:ByteArray)=A3 at *
 generalize (⟨ty.toArray⟩:ByteArray)=A4 at *
 generalize cmpL nx ny=r at *
 go_enter func42,ntmps42
 go_wp2_with fail
 with_reducible refine (HC.out _).mono ?_
 rintro e w2 ⟨rfl,rfl⟩
 go_wp2_with fail
 exact fin hR ⟨rfl,((Gr.refl w).alloc _).alloc _⟩
set_option maxRecDepth 100000 in
theorem insnd_any (L:List NdY) (hL:L.length<=1000000) (g cap a b:Nat) (rest:List Value) (w:World) (h:w.heap[g]? = some (.cells (L.flatMap NdY.cells++rest).toArray 81 (0,0))) (hab:a<=b) (hb:b<=L.length)
  (d:List NdY) (hd:insertionSort (ltOf cfNd) L.toArray a b=d.toArray) (hdl:d.length=L.length) :
  Calls prog 113 #[.slice (some ⟨g,0,none⟩) L.length cap,.int .i64 a,.int .i64 b,.func (.func 42) #[] #[]] w fun e w' =>
   e=.returned (.tuple #[])/\w'.heap[g]? = some (.cells (d.flatMap NdY.cells++rest).toArray 81 (0,0))/\Mod (fun p=>p=g) w w':=by
 have hs:L.toArray.size=L.length:=by simp
 have hc:=AnyQ.insertionSortCmpFunc Tryz.insNd 4 (fun w=>isAgg81 w) (fun w=>sizeOf81 w) NdY.cells NdY.len NdY.one cfNd 42 #[] g 0 cap a b L.toArray w (fun _ _=>rfl)
  (fun m os dk _ x y=>(byname_any x y _).mono fun e w' ⟨he,hg⟩=>⟨he,hg⟩) (holds_list NdY.cells 4 NdY.len (by omega) h) (lt_of_heap h) hab (by rw [hs];exact hb) (by rw [hs];omega)
 rw [hs] at hc
 refine hc.mono fun e w' ⟨he,n,os,hw⟩=>⟨he,?_⟩
 rw [hd] at hw
 rw [hw]
 exact world_sort NdY.cells 4 NdY.len (by omega) hdl h n os
set_option maxRecDepth 100000 in
theorem insnone_any (p:Option Addr) (cap:Nat) (w:World) :
  Calls prog 113 #[.slice p 0 cap,.int .i64 0,.int .i64 0,.func (.func 42) #[] #[]] w fun e w'=>e=.returned (.tuple #[])/\w'=w:=by
 refine calls_hide fun R hR=>?_
 go_enter func113,ntmps113
 go_wp2_with fail
 go_loopw [8] (fun q wr=>q=.int .i64 1/\wr=w) (fun _ _=>0)
 case atStart=>exact ⟨rfl,rfl⟩
 case round =>
  obtain ⟨rfl,rfl⟩:=hrel
  go_wp2_with fail
  go_end0
  exact fin hR ⟨rfl,rfl⟩
def NdHeap (w:World) (p:Option Addr) (L:List NdY) (g:Nat) (rest:List Value):Prop:=(L=[])\/(p=some ⟨g,0,none⟩/\w.heap[g]? = some (.cells (L.flatMap NdY.cells++rest).toArray 81 (0,0)))
set_option maxRecDepth 100000 in
theorem insall_any (L:List NdY) (hL:L.length<=20) (p:Option Addr) (g cap:Nat) (rest:List Value) (w:World) (h:NdHeap w p L g rest) :
  Calls prog 113 #[.slice p L.length cap,.int .i64 0,.int .i64 L.length,.func (.func 42) #[] #[]] w fun e w' =>
   e=.returned (.tuple #[])/\NdHeap w' p (sortR (ltOf cfNd) L) g rest/\Mod (fun q=>q=g/\L ≠ []) w w':=by
 rcases h with rfl | ⟨rfl,h⟩
 ·exact (insnone_any p cap w).mono fun e w' ⟨he,hw⟩=>⟨he,.inl rfl,by rw [hw];exact Mod.refl _ _⟩
 ·by_cases hn:L=[]
  ·subst hn
   exact (insnone_any _ cap w).mono fun e w' ⟨he,hw⟩=>⟨he,.inl rfl,by rw [hw];exact Mod.refl _ _⟩
  ·exact (insnd_any L (by omega) g cap 0 L.length rest w h (Nat.zero_le _) (Nat.le_refl _) _ (sort_list (ltOf cfNd) L) (sortR_length _ _)).mono fun e w' ⟨he,hh,hm⟩=>⟨he,.inr ⟨rfl,hh⟩,hm.weaken (fun _ _ e=>⟨e,hn⟩)⟩
set_option maxRecDepth 100000 in
set_option maxHeartbeats 4000000 in
theorem stable_any (L:List NdY) (hL:L.length<=20) (p:Option Addr) (g cap:Nat) (rest:List Value) (w:World) (h:NdHeap w p L g rest) :
  Calls prog 84 #[.slice p L.length cap,.int .i64 L.length,.func (.func 42) #[] #[]] w fun e w' =>
   e=.returned (.tuple #[])/\NdHeap w' p (sortR (ltOf cfNd) L) g rest/\Mod (fun q=>q=g/\L ≠ []) w w':=by
 refine calls_hide fun R hR=>?_
 have HI:=zh (insall_any L hL p g cap rest w h)
 have hsl:=sortR_length (ltOf cfNd) L
 obtain ⟨z,hz⟩:∃ z:Int,z=(L.length:Int):=⟨_,rfl⟩
 rw [<- hz] at HI ⊢
 by_cases h20:L.length=20
 ·have H2:=zh (fun (W:World) (hW:NdHeap W p (sortR (ltOf cfNd) L) g rest)=>show Calls prog 113 #[.slice p L.length cap,.int .i64 20,.int .i64 20,.func (.func 42) #[] #[]] W fun e w' =>
    e=.returned (.tuple #[])/\NdHeap w' p (sortR (ltOf cfNd) L) g rest/\Mod (fun q=>q=g/\L ≠ []) W w' from by
   have hne:L ≠ []:=by intro e;rw [e] at h20;cases h20
   rcases hW with he | ⟨rfl,hW⟩
   ·rw [he] at hsl;rw [h20] at hsl;cases hsl
   ·have hc:=insnd_any (sortR (ltOf cfNd) L) (by omega) g cap 20 20 rest W hW (Nat.le_refl _) (by omega) (sortR (ltOf cfNd) L) (by
     unfold insertionSort
     rw [insOuter,if_neg (by omega)]) rfl
    rw [hsl] at hc
    exact hc.mono fun e w' ⟨he,hh,hm⟩=>⟨he,.inr ⟨rfl,hh⟩,hm.weaken (fun _ _ e=>⟨e,hne⟩)⟩)
  obtain rfl:z=20:=by omega
  rw [h20] at HI H2 ⊢
  clear hz
  generalize sortR (ltOf cfNd) L=S at *
  clear h
  go_enter func84,ntmps84
  go_wp2_with fail
  go_loopw [7,8] (fun a b wr=>(a=.int .i64 0/\b=.int .i64 20/\wr=w)\/(a=.int .i64 20/\b=.int .i64 40/\NdHeap wr p S g rest/\Mod (fun q=>q=g/\L ≠ []) w wr)) (fun a _ _=>20 - (intOf a).toNat)
  case atStart=>exact .inl ⟨rfl,rfl,rfl⟩
  case round =>
   rcases hrel with ⟨rfl,rfl,rfl⟩ | ⟨rfl,rfl,hh,hm⟩
   ·go_wp2_with fail
    with_reducible refine HI.out.mono ?_
    rintro e w2 ⟨rfl,hh,hm⟩
    have HH:=zh hh
    have HM:=zh hm
    clear hh hm
    go_wp2_with fail
    exact ⟨.inr ⟨rfl,rfl,HH.out,HM.out⟩,by decide⟩
   ·have HC:=zh (H2.out wr hh)
    have HM:=zh hm
    clear hh hm H2 HI
    go_wp2_with fail
    with_reducible refine HC.out.mono ?_
    rintro e w2 ⟨rfl,hh,hm⟩
    have HH:=zh hh
    have HM2:=zh (HM.out.trans hm)
    clear hh hm HC HM
    go_wp2_with fail
    go_loopw [6] (fun a wr=>a=.int .i64 20/\wr=w2) (fun _ _=>0)
    case atStart=>exact ⟨rfl,rfl⟩
    case round =>
     obtain ⟨rfl,rfl⟩:=hrel
     go_wp2_with fail
     go_end0
     exact fin hR ⟨rfl,HH.out,HM2.out⟩
 ·have hlt:¬ ((20:Int)<=z):=by omega
  have hlt2:¬ ((20:Int) < z):=by omega
  clear h hz
  generalize L.length=n at *
  generalize sortR (ltOf cfNd) L=S at *
  go_enter func84,ntmps84
  go_wp2_with fail
  go_loopw [7,8] (fun a b wr=>a=.int .i64 0/\b=.int .i64 20/\wr=w) (fun _ _ _=>0)
  case atStart=>exact ⟨rfl,rfl,rfl⟩
  case round =>
   obtain ⟨rfl,rfl,rfl⟩:=hrel
   go_wp2_with fail
   with_reducible refine HI.out.mono ?_
   rintro e w2 ⟨rfl,hh,hm⟩
   have HH:=zh hh
   have HM2:=zh hm
   clear hh hm HI
   go_wp2_with fail
   go_loopw [6] (fun a wr=>a=.int .i64 20/\wr=w2) (fun _ _=>0)
   case atStart=>exact ⟨rfl,rfl⟩
   case round =>
    obtain ⟨rfl,rfl⟩:=hrel
    go_wp2_with fail
    go_end0
    exact fin hR ⟨rfl,HH.out,HM2.out⟩
set_option maxRecDepth 100000 in
theorem sortstable_any (L:List NdY) (hL:L.length<=20) (p:Option Addr) (g cap:Nat) (rest:List Value) (w:World) (h:NdHeap w p L g rest) :
  Calls prog 41 #[.slice p L.length cap,.func (.func 42) #[] #[]] w fun e w' =>
   e=.returned (.tuple #[])/\NdHeap w' p (sortR (ltOf cfNd) L) g rest/\Mod (fun q=>q=g/\L ≠ []) w w':=by
 refine calls_hide fun R hR=>?_
 have HC:=zh (stable_any L hL p g cap rest w h)
 clear h
 go_enter func41,ntmps41
 go_wp2_with fail
 with_reducible refine HC.out.mono ?_
 rintro e w2 ⟨rfl,hh,hm⟩
 have HH:=zh hh
 have HM:=zh hm
 clear hh hm HC
 go_wp2_with fail
 go_end0
 exact fin hR ⟨rfl,HH.out,HM.out⟩
theorem sort_nds (L:List NdY):(sortR (ltOf cfNd) L).map NdY.n=sortR ltNd (L.map NdY.n):=by
 rw [show ltOf cfNd=fun x y=>ltNd x.n y.n from funext fun x=>funext fun y=>cfNd_lt x y,sortR_map]
end Go.Proofs.YtgiigemfbebcgaaGreatDoor
