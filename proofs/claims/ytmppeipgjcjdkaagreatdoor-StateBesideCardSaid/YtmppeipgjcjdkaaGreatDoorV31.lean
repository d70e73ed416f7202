/-
  Layers 0 to 14: helps of the laws of indexes. No statement is proved here; no condition.
-/
import Derived.Test.YtmppeipgjcjdkaaGreatDoorV05
import Derived.ChangeSlices
import Derived.OpenShut
import Derived.Deep.Slices
import Derived.ProofKit
import Derived.ChangeOld
namespace Go.Proofs.YtmppeipgjcjdkaaGreatDoor
open _root_.Go.Proofs.Tryz
open Go.ChangeShapes Go.WideShapes Go.ChangeAt Go.RowKit
structure FlX where
 f:Fl
 v:Value
def FlX.cells (x:FlX):List Value:=[strV x.f.path,.bool x.f.dir,x.v]
theorem FlX.cells_length (x:FlX):x.cells.length=3:=rfl
instance:Inhabited FlX:=⟨⟨⟨[],false,[]⟩,.slice none 0 0⟩⟩
def FlIn (w:World) (x:FlX):Prop:=SvX w No x.v x.f.b.length (bv x.f.b)
theorem FlIn.no {w w':World} {x:FlX} (h:FlIn w x) (hm:Mod No w w'):FlIn w' x:=h.kn hm
def FlsIn (w:World) (a:Option Addr) (len:Nat) (xs:List FlX):Prop:=xs.length=len/\(∀ x ∈ xs,FlIn w x)/\∀ cap,(len<=cap/\cap<=maxLen\/len=0)->SvX w No (.slice a len cap) len (xs.flatMap FlX.cells)
theorem add_atF (b o i:Nat):(⟨b,o,none⟩:Addr).add i=⟨b,o+i,none⟩:=by
 unfold Addr.add
 split
 ·rename_i h;subst h;rfl
 ·rfl
theorem cellsF {w:World} {base b o c:Nat} {cs:List Value} (h:w.cells? base (⟨b,o,none⟩:Addr) c=some cs):cs.length=c/\∀ j u,cs[j]? = some u->w.cell? ⟨b,o+j,none⟩=some u:=by
 obtain ⟨_,hlen,hcell⟩:=World.cells?_some h
 refine ⟨hlen,fun j u hj=>?_⟩
 have hj7:j < c:=by have:=(List.getElem?_eq_some_iff.1 hj).1;omega
 have:=hcell j hj7
 rw [hj,add_atF] at this
 exact this
theorem sv_cellsF {w:World} {b o len cap:Nat} {xs:List Value} (hl:len<=cap) (hm:cap<=maxLen) (hx:0 < xs.length) (hc:∀ i (hi:i < xs.length),w.cell? ⟨b,o+i,none⟩=some xs[i]):∃ e,Sl w No e (.slice (some ⟨b,o,none⟩) len cap) len xs:=by
 have h0:=hc 0 hx
 cases hh:w.heap[b]? with
 | none=>simp [World.cell?,hh] at h0
 | some ob =>
  cases ob with
  | cells cur e fz =>
   have hcs:∀ i (hi:i < xs.length),cur[o+i]? = some xs[i]:=fun i hi=>by
    have h:=hc i hi
    simpa [World.cell?,hh] using h
   refine ⟨e,.inr ⟨b,o,cap,cur,fz,rfl,hl,hm,fun f=>f,hh,?_,fun i hi=>by rw [hcs i hi,List.getElem?_eq_getElem hi]⟩⟩
   have h9:=hcs (xs.length - 1) (by omega)
   have h8:=(Array.getElem?_eq_some_iff.1 h9).1
   omega
  | _=>simp [World.cell?,hh] at h0
theorem bv_ints {zs:List Int} (h:∀ z ∈ zs,0<=z/\z < 256):bv (zs.map fun z=>UInt8.ofNat z.toNat)=zs.map fun z=>.int .u8 z:=by
 unfold bv
 rw [List.map_map]
 refine List.map_congr_left fun z hz=>?_
 have hb:=h z hz
 have e:((UInt8.ofNat z.toNat).toNat:Int)=z:=by
  rw [UInt8.toNat_ofNat']
  omega
 show Value.int .u8 ((UInt8.ofNat z.toNat).toNat:Int)=_
 rw [e]
set_option maxRecDepth 100000 in
theorem bytes_open {H:Type} {enc:TypeId × Value->H} {w:World} {base:Nat} {held:Bool} {fuel:Nat} {cs:List Value} {x:DataW H × List MemPlace} (h:DataW.trod enc prog w base (fun _=>true) held fuel 41 cs=some x) :
  ∃ (v:Value) (l:List UInt8),cs=[v]/\SvX w No v l.length (bv l):=by
 rcases open_ints underlying41 underlying5 (by kernel_rfl) h with ⟨hcs,_⟩ | ⟨a,len,cap,zs,hcs,_,hl,hm,hz,_,hcell,hwf⟩
 ·exact ⟨_,[],hcs,⟨⟨none,0,rfl⟩,.inl ⟨rfl,rfl⟩⟩⟩
 ·rw [if_pos rfl] at hz
  have hb:∀ z ∈ zs.take len,0<=z/\z < 256:=fun z hzm=>by
   have h:=bounds_u8 (hwf z (List.mem_of_mem_take hzm))
   omega
  have hll:(zs.take len).length=len:=by rw [List.length_take,hz];omega
  refine ⟨_,(zs.take len).map fun z=>UInt8.ofNat z.toNat,hcs,?_⟩
  rw [bv_ints hb,List.length_map,hll]
  refine ⟨⟨some a,cap,rfl⟩,?_⟩
  rcases Nat.eq_zero_or_pos len with h0 | h0
  ·left;subst h0;exact ⟨rfl,rfl⟩
  ·right
   obtain ⟨b,o,sp⟩:=a
   have h1:=hcell 0 (by omega)
   have hsp:sp=none:=by simpa [Addr.add] using World.cell?_spot h1
   subst hsp
   refine sv_cellsF hl hm (by rw [List.length_map,hll];exact h0) (fun i hi=>?_)
   have hi2:i < len:=by rw [List.length_map,hll] at hi;exact hi
   have h2:=hcell i (by omega)
   rw [add_atF] at h2
   rw [h2]
   have hi3:i < zs.length:=by omega
   simp only [List.getElem_map,List.getElem_take,List.getD_eq_getElem?_getD,List.getElem?_eq_getElem hi3,Option.getD_some]
set_option maxRecDepth 100000 in
theorem fl_open {H:Type} {enc:TypeId × Value->H} {w:World} {base:Nat} {held:Bool} {n:Nat} {cs:List Value} {x:DataW H × List MemPlace} (h:DataW.trod enc prog w base (fun _=>true) held n 51 cs=some x) :
  ∃ v:FlX,cs=FlX.cells v/\FlIn w v:=by
 obtain ⟨xs,m,_,rfl,hlen,hxl,hf⟩:=DataW.trod_struct underlying51 h
 have hx:xs.length=3:=hxl
 have hc:cs.length=3:=hlen.trans (by kernel_rfl)
 match cs,hc with
 | [c0,c1,c2],_ =>
  have e5:prog.cellsOf 9=1:=by kernel_rfl
  have e6:prog.cellsOf 4=1:=by kernel_rfl
  have e7:prog.cellsOf 41=1:=by kernel_rfl
  have g0:DataW.trod enc prog w base (fun _=>true) held m 9 (([c0,c1,c2].drop 0).take (prog.cellsOf 9))=xs[0]?:=hf 0 _ rfl
  rw [e5,List.getElem?_eq_getElem (by omega)] at g0
  have g1:DataW.trod enc prog w base (fun _=>true) held m 4 (([c0,c1,c2].drop 1).take (prog.cellsOf 4))=xs[1]?:=hf 1 _ rfl
  rw [e6,List.getElem?_eq_getElem (by omega)] at g1
  have g2:DataW.trod enc prog w base (fun _=>true) held m 41 (([c0,c1,c2].drop 2).take (prog.cellsOf 41))=xs[2]?:=hf 2 _ rfl
  rw [e7,List.getElem?_eq_getElem (by omega)] at g2
  obtain ⟨s0,z0,-,-⟩:=DataW.trod_string underlying9 g0
  obtain ⟨b1,z1,_⟩:=DataW.trod_bool underlying4 g1
  simp only [List.drop_zero,List.drop_succ_cons,List.take_succ_cons,List.take_zero,List.cons.injEq,and_true] at z0 z1 g2
  subst z0 z1
  obtain ⟨v,l,hcs,hl⟩:=bytes_open g2
  simp only [List.cons.injEq,and_true] at hcs
  subst hcs
  exact ⟨⟨⟨s0.data.toList,b1,l⟩,_⟩,rfl,hl⟩
set_option maxRecDepth 100000 in
theorem fls_open {H:Type} {enc:TypeId × Value->H} {w:World} {base:Nat} {held:Bool} {fuel:Nat} {cs:List Value} {x:DataW H × List MemPlace}
  (h:DataW.trod enc prog w base (fun _=>true) held fuel 22 cs=some x):∃ a len cap,∃ l:List FlX,cs=[.slice a len cap]/\FlsIn w a len l/\(len<=cap/\cap<=maxLen\/len=0):=by
 rcases Go.Deep.open_slice underlying22 h with ⟨hcs,_⟩ | ⟨ad,len,cap,m,n,D,Pl,hcs,_,hl,hm9,hm,_,hx⟩
 ·exact ⟨none,0,0,[],hcs,⟨rfl,(fun x hx=>by cases hx),fun cap _=>⟨⟨none,cap,rfl⟩,.inl ⟨rfl,rfl⟩⟩⟩,.inr rfl⟩
 ·have hlm:len<=m:=by rw [hm];split <;> omega
  obtain ⟨b,o,sp⟩:=ad
  have e7:prog.cellsOf 51=3:=by kernel_rfl
  have hsp:0 < len->sp=none:=fun h0=>by
   obtain ⟨cs',h1,_⟩:=hx 0 (by omega)
   rw [e7] at h1
   obtain ⟨_,hlen,hcell⟩:=World.cells?_some h1
   have h2:=hcell 0 (by omega)
   rw [List.getElem?_eq_getElem (by omega)] at h2
   simpa [Addr.add] using World.cell?_spot h2
  have key:∀ i,i < len->∃ v:FlX,sp=none/\w.rangeAt b (o+i*3) (FlX.cells v)/\FlIn w v:=fun i hi=>by
   obtain ⟨cs',h1,h2⟩:=hx i (by omega)
   have hs:=hsp (by omega)
   subst hs
   rw [e7,add_atF] at h1
   obtain ⟨v,rfl,hv⟩:=fl_open h2
   exact ⟨v,rfl,(cellsF h1).2,hv⟩
  obtain ⟨f,hf⟩:=Go.Deep.choose_lt key
  have hlen:((List.range len).map f).length=len:=by simp
  refine ⟨some ⟨b,o,sp⟩,len,cap,(List.range len).map f,hcs,⟨hlen,fun p hp=>?_,fun cap2 hc2=>⟨⟨_,_,rfl⟩,?_⟩⟩,.inl ⟨hl,hm9⟩⟩
  ·obtain ⟨i,hi,rfl⟩:=List.mem_map.1 hp
   exact (hf i (List.mem_range.1 hi)).2.2
  ·rcases Nat.eq_zero_or_pos len with h0 | h0
   ·left;subst h0;exact ⟨rfl,rfl⟩
   ·right
    have hs:=hsp h0
    subst hs
    have hfl:=flat_length FlX.cells_length ((List.range len).map f)
    rw [hlen] at hfl
    have hcc:len<=cap2/\cap2<=maxLen:=hc2.elim id (fun e=>by omega)
    refine sv_cellsF hcc.1 hcc.2 (by omega) (fun i hi=>?_)
    have hi3:i < len*3:=by omega
    have hq:i / 3 < len:=by omega
    have hqr:i / 3 < ((List.range len).map f).length:=by rw [hlen];exact hq
    have hg:((List.range len).map f)[i / 3]=f (i / 3):=by simp
    have hr:i % 3 < (FlX.cells (f (i / 3))).length:=by rw [FlX.cells_length];omega
    have h1:=flat_get FlX.cells_length ((List.range len).map f) hqr (j:=i % 3) (u:=(FlX.cells (f (i / 3)))[i % 3]) (by rw [hg];exact List.getElem?_eq_getElem hr)
    rw [Nat.div_add_mod'] at h1
    have h2:=(hf (i / 3) hq).2.1 (i % 3) _ (List.getElem?_eq_getElem hr)
    rw [Nat.add_assoc,Nat.div_add_mod'] at h2
    rw [h2]
    rw [List.getElem?_eq_getElem hi] at h1
    exact h1.symm
theorem fls_cells {w:World} {b o c:Nat} {xs:List FlX} (h:SvX w No (.slice (some ⟨b,o,none⟩) xs.length c) xs.length (xs.flatMap FlX.cells)) {k:Nat} (hk:k < xs.length) :
  w.cell? ⟨b,o+k*3,none⟩=some (strV xs[k].f.path)/\w.cell? ⟨b,o+k*3+1,none⟩=some (.bool xs[k].f.dir)/\w.cell? ⟨b,o+k*3+2,none⟩=some xs[k].v:=by
 have hl:=flat_length FlX.cells_length xs
 have key:∀ i u,(FlX.cells xs[k])[i]? = some u->w.cell? ⟨b,o+(k*3+i),none⟩=some u:=fun i u hu=>by
  have h1:=flat_get FlX.cells_length xs hk hu
  obtain ⟨h2,h3⟩:=List.getElem?_eq_some_iff.1 h1
  rw [h.cellN h2,h3]
 exact ⟨key 0 _ rfl,key 1 _ rfl,key 2 _ rfl⟩
end Go.Proofs.YtmppeipgjcjdkaaGreatDoor
