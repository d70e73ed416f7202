/-
  Layers 0 to 14: helps of the laws of indexes. No statement is proved here; no condition.
-/
import Derived.Test.YtmppeipgjcjdkaaGreatDoorX03
import Derived.Test.YtmppeipgjcjdkaaGreatDoorX05
import Derived.Test.YtmppeipgjcjdkaaGreatDoorX01
import Derived.ChangeSlices
import Derived.OpenShut
import Derived.Deep.Slices
import Derived.ProofKit
import Derived.ChangeOld
namespace Go.Proofs.YtmppeipgjcjdkaaGreatDoor
open _root_.Go.Proofs.Tryz
open Go.ChangeShapes Go.WideShapes Go.ChangeAt Go.RowKit
structure FlX where
 f:Fl
 v:Value
def FlX.cells (x:FlX):List Value:=[strV x.f.path,.bool x.f.dir,x.v]
theorem FlX.cells_length (x:FlX):x.cells.length=3:=rfl
instance:Inhabited FlX:=⟨⟨⟨[],false,[]⟩,.slice none 0 0⟩⟩
def FlIn (w:World) (x:FlX):Prop:=SvX w No x.v x.f.b.length (bv x.f.b)
theorem FlIn.no {w w':World} {x:FlX} (h:FlIn w x) (hm:Mod No w w'):FlIn w' x:=h.kn hm
theorem add_atF (b o i:Nat):(⟨b,o,none⟩:Addr).add i=⟨b,o+i,none⟩:=by
 unfold Addr.add
 split
 ·rename_i h;subst h;rfl
 ·rfl
theorem sv_cellsF {w:World} {b o len cap:Nat} {xs:List Value} (hl:len<=cap) (hm:cap<=maxLen) (hx:0 < xs.length) (hc:∀ i (hi:i < xs.length),w.cell? ⟨b,o+i,none⟩=some xs[i]):∃ e,Sl w No e (.slice (some ⟨b,o,none⟩) len cap) len xs:=by
 have h0:=hc 0 hx
 cases hh:w.heap[b]? with
 | none=>simp [World.cell?,hh] at h0
 | some ob =>
  cases ob with
  | cells cur e fz =>
   have hcs:∀ i (hi:i < xs.length),cur[o+i]? = some xs[i]:=fun i hi=>by
    have h:=hc i hi
    simpa [World.cell?,hh] using h
   refine ⟨e,.inr ⟨b,o,cap,cur,fz,rfl,hl,hm,fun f=>f,hh,?_,fun i hi=>by rw [hcs i hi,List.getElem?_eq_getElem hi]⟩⟩
   have h9:=hcs (xs.length - 1) (by omega)
   have h8:=(Array.getElem?_eq_some_iff.1 h9).1
   omega
  | _=>simp [World.cell?,hh] at h0
theorem bv_ints {zs:List Int} (h:∀ z ∈ zs,0<=z/\z < 256):bv (zs.map fun z=>UInt8.ofNat z.toNat)=zs.map fun z=>.int .u8 z:=by
 unfold bv
 rw [List.map_map]
 refine List.map_congr_left fun z hz=>?_
 have hb:=h z hz
 have e:((UInt8.ofNat z.toNat).toNat:Int)=z:=by
  rw [UInt8.toNat_ofNat']
  omega
 show Value.int .u8 ((UInt8.ofNat z.toNat).toNat:Int)=_
 rw [e]
set_option maxRecDepth 100000 in
theorem bytes_open {H:Type} {enc:TypeId × Value->H} {w:World} {base:Nat} {held:Bool} {fuel:Nat} {cs:List Value} {x:DataW H × List MemPlace} (h:DataW.trod enc prog w base (fun _=>true) held fuel 41 cs=some x) :
  ∃ (v:Value) (l:List UInt8),cs=[v]/\SvX w No v l.length (bv l):=by
 rcases open_ints underlying41 underlying5 (by kernel_rfl) h with ⟨hcs,_⟩ | ⟨a,len,cap,zs,hcs,_,hl,hm,hz,_,hcell,hwf⟩
 ·exact ⟨_,[],hcs,⟨⟨none,0,rfl⟩,.inl ⟨rfl,rfl⟩⟩⟩
 ·rw [if_pos rfl] at hz
  have hb:∀ z ∈ zs.take len,0<=z/\z < 256:=fun z hzm=>by
   have h:=bounds_u8 (hwf z (List.mem_of_mem_take hzm))
   omega
  have hll:(zs.take len).length=len:=by rw [List.length_take,hz];omega
  refine ⟨_,(zs.take len).map fun z=>UInt8.ofNat z.toNat,hcs,?_⟩
  rw [bv_ints hb,List.length_map,hll]
  refine ⟨⟨some a,cap,rfl⟩,?_⟩
  rcases Nat.eq_zero_or_pos len with h0 | h0
  ·left;subst h0;exact ⟨rfl,rfl⟩
  ·right
   obtain ⟨b,o,sp⟩:=a
   have h1:=hcell 0 (by omega)
   have hsp:sp=none:=by simpa [Addr.add] using World.cell?_spot h1
   subst hsp
   refine sv_cellsF hl hm (by rw [List.length_map,hll];exact h0) (fun i hi=>?_)
   have hi2:i < len:=by rw [List.length_map,hll] at hi;exact hi
   have h2:=hcell i (by omega)
   rw [add_atF] at h2
   rw [h2]
   have hi3:i < zs.length:=by omega
   simp only [List.getElem_map,List.getElem_take,List.getD_eq_getElem?_getD,List.getElem?_eq_getElem hi3,Option.getD_some]
theorem fls_cells {w:World} {b o c:Nat} {xs:List FlX} (h:SvX w No (.slice (some ⟨b,o,none⟩) xs.length c) xs.length (xs.flatMap FlX.cells)) {k:Nat} (hk:k < xs.length) :
  w.cell? ⟨b,o+k*3,none⟩=some (strV xs[k].f.path)/\w.cell? ⟨b,o+k*3+1,none⟩=some (.bool xs[k].f.dir)/\w.cell? ⟨b,o+k*3+2,none⟩=some xs[k].v:=by
 have hl:=flat_length FlX.cells_length xs
 have key:∀ i u,(FlX.cells xs[k])[i]? = some u->w.cell? ⟨b,o+(k*3+i),none⟩=some u:=fun i u hu=>by
  have h1:=flat_get FlX.cells_length xs hk hu
  obtain ⟨h2,h3⟩:=List.getElem?_eq_some_iff.1 h1
  rw [h.cellN h2,h3]
 exact ⟨key 0 _ rfl,key 1 _ rfl,key 2 _ rfl⟩
end Go.Proofs.YtmppeipgjcjdkaaGreatDoor
