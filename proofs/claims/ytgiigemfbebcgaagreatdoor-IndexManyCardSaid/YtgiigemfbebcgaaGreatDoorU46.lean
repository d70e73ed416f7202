/-
  Layers 0 to 14: helps of the laws of indexes. No statement is proved here; no condition.
-/
import Derived.Test.YtgiigemfbebcgaaGreatDoorU41
import Derived.Test.YtgiigemfbebcgaaGreatDoorU42
import Derived.Test.YtgiigemfbebcgaaGreatDoorU39
import Derived.Test.YtgiigemfbebcgaaGreatDoorU45
import Derived.ChangeSlices
import Derived.OpenShut
import Derived.Deep.Slices
import Derived.ProofKit
import Derived.ChangeOld
namespace Go.Proofs.YtgiigemfbebcgaaGreatDoor
open _root_.Go.Proofs.Tryz
open Go.ChangeShapes Go.WideShapes Go.ChangeAt Go.RowKit
instance:Inhabited SrX:=⟨⟨⟨0,0,[],0,0⟩,.slice none 0 0⟩⟩
theorem byte9 (x:Int) (h:(Lit.int .u8 x).wf=true):∃ k:Nat,x=(k:Int)/\k < 256:=by
 have h2:=bounds_u8 h
 exact ⟨x.toNat,by omega,by omega⟩
end Go.Proofs.YtgiigemfbebcgaaGreatDoor
namespace Go.Proofs.YtgiigemfbebcgaaGreatDoor
open _root_.Go.Proofs.Tryz
open Go.RowKit
theorem ixans (s:List UInt8) (hl:s.length<=100000) (w:World) (hgl:Gl w) :
  Calls prog 11 #[strV s] w fun e w'=>IxAns s e w'/\Mod No w w' :=
 (ixparse_b s hl w hgl).mono fun e w' ⟨⟨a,n,c,xs,he,hr,hx⟩,hm⟩=>by
  refine ⟨⟨a,n,c,he,?_,fun r hr1=>?_⟩,hm⟩
  ·obtain ⟨a',c',e'⟩:=hr.sl.len
   cases e'
   have h:(xs.map RwX.r).length=(ixR s).length:=by rw [hx]
   rw [List.length_map] at h
   exact h.symm
  ·have hx1:xs.map RwX.r=[r]:=hx.trans hr1
   obtain ⟨x,rfl⟩:∃ x,xs=[x]:=by
    match xs,hx1 with
    | [],h=>simp at h
    | [x],_=>exact ⟨x,rfl⟩
    | x :: y :: l,h=>simp at h
   have hxr:x.r=r:=by simpa using hx1
   have hat:=hr.each x (by simp)
   obtain ⟨b,o,c',hv,-⟩:=hr.sl.shape (by simp)
   cases hv
   obtain ⟨_,_,_,hns⟩:=hat.nds
   obtain ⟨na,nc,hn⟩:=hns.len
   refine ⟨b,o,rfl,na,nc,?_⟩
   have hs:Sl w' No 46 (.slice (some ⟨b,o,none⟩) [x].length c) [x].length (RwX.cells x):=by have h:=hr.sl;simpa using h
   have h38:=hs.cellN (i:=38) (by rw [RwX.cells_length x hat.ok.sum];omega)
   rw [h38,<- hxr,<- hn]
   have e:RwX.cells x=(strV x.r.name :: (verCs x.r.v x.pv++(bv x.r.sum++[.int .i64 x.r.size])))++[x.nv]:=by simp [RwX.cells]
   have hl:(strV x.r.name :: (verCs x.r.v x.pv++(bv x.r.sum++[.int .i64 x.r.size]))).length=38:=by simp [verCs,hat.ok.sum]
   congr 1
   have h5:(RwX.cells x)[38]? = some x.nv:=by
    rw [e,List.getElem?_append_right (by rw [hl];exact Nat.le_refl _),hl]
    rfl
   rw [List.getElem?_eq_getElem (by rw [RwX.cells_length x hat.ok.sum];omega)] at h5
   exact Option.some.inj h5
theorem many_walk {w:World} (x:Int) (hx:(Lit.int .u8 x).wf=true) (y:Int) (hy:(Lit.int .u8 y).wf=true) (hgl:Gl w) :
  Calls prog 5 #[.int .u8 x,.int .u8 y] w fun e w'=>e=.returned (.bool true)/\Mod No w w':=by
 obtain ⟨a,rfl,ha⟩:=byte9 x hx
 obtain ⟨b,rfl,hb⟩:=byte9 y hy
 exact many_any a b ha hb w Gl hgl (fun w w' h hm=>h.stay hm (fun f=>f)) known_any (fun s W h=>ixans s h W)
end Go.Proofs.YtgiigemfbebcgaaGreatDoor
