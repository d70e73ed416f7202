/-
  Layers 0 to 14: helps of the laws of indexes. No statement is proved here; no condition.
-/
import Derived.Test.YtgiigemfbebcgaaGreatDoorT40
import Derived.ChangeSlices
import Derived.OpenShut
import Derived.Deep.Slices
import Derived.ProofKit
import Derived.ChangeOld
namespace Go.Proofs.YtgiigemfbebcgaaGreatDoor
open _root_.Go.Proofs.Tryz
open Go.ChangeShapes Go.WideShapes Go.ChangeAt Go.RowKit
structure SrIn (w:World) (x:SrX):Prop where
 needs:SvX w No x.nv x.r.needs.length (u16s x.r.needs)
 small:∀ t ∈ x.r.needs,t < 65536
theorem SrIn.no {w w':World} {x:SrX} (h:SrIn w x) (hm:Mod No w w'):SrIn w' x:=⟨h.needs.kn hm,h.small⟩
instance:Inhabited SrX:=⟨⟨⟨0,0,[],0,0⟩,.slice none 0 0⟩⟩
def SrsIn (w:World) (a:Option Addr) (len:Nat) (xs:List SrX):Prop:=xs.length=len/\(∀ x ∈ xs,SrIn w x)/\∀ cap,(len<=cap/\cap<=maxLen\/len=0)->SvX w No (.slice a len cap) len (xs.flatMap SrX.cells)
theorem add_at9 (b o i:Nat):(⟨b,o,none⟩:Addr).add i=⟨b,o+i,none⟩:=by
 unfold Addr.add
 split
 ·rename_i h;subst h;rfl
 ·rfl
theorem cells9 {w:World} {base b o c:Nat} {cs:List Value} (h:w.cells? base (⟨b,o,none⟩:Addr) c=some cs):cs.length=c/\∀ j u,cs[j]? = some u->w.cell? ⟨b,o+j,none⟩=some u:=by
 obtain ⟨_,hlen,hcell⟩:=World.cells?_some h
 refine ⟨hlen,fun j u hj=>?_⟩
 have hj7:j < c:=by have:=(List.getElem?_eq_some_iff.1 hj).1;omega
 have:=hcell j hj7
 rw [hj,add_at9] at this
 exact this
theorem sv_cells {w:World} {b o len cap:Nat} {xs:List Value} (hl:len<=cap) (hm:cap<=maxLen) (hx:0 < xs.length) (hc:∀ i (hi:i < xs.length),w.cell? ⟨b,o+i,none⟩=some xs[i]):∃ e,Sl w No e (.slice (some ⟨b,o,none⟩) len cap) len xs:=by
 have h0:=hc 0 hx
 cases hh:w.heap[b]? with
 | none=>simp [World.cell?,hh] at h0
 | some ob =>
  cases ob with
  | cells cur e fz =>
   have hcs:∀ i (hi:i < xs.length),cur[o+i]? = some xs[i]:=fun i hi=>by
    have h:=hc i hi
    simpa [World.cell?,hh] using h
   refine ⟨e,.inr ⟨b,o,cap,cur,fz,rfl,hl,hm,fun f=>f,hh,?_,fun i hi=>by rw [hcs i hi,List.getElem?_eq_getElem hi]⟩⟩
   have h9:=hcs (xs.length - 1) (by omega)
   have h8:=(Array.getElem?_eq_some_iff.1 h9).1
   omega
  | _=>simp [World.cell?,hh] at h0
set_option maxRecDepth 100000 in
theorem u16s_open {H:Type} {enc:TypeId × Value->H} {w:World} {base:Nat} {held:Bool} {fuel:Nat} {cs:List Value} {x:DataW H × List MemPlace} (h:DataW.trod enc prog w base (fun _=>true) held fuel 70 cs=some x) :
  ∃ (v:Value) (l:List Nat),cs=[v]/\SvX w No v l.length (u16s l)/\∀ t ∈ l,t < 65536:=by
 rcases open_ints underlying70 underlying69 (by kernel_rfl) h with ⟨hcs,_⟩ | ⟨a,len,cap,zs,hcs,_,hl,hm,hz,_,hcell,hwf⟩
 ·exact ⟨_,[],hcs,⟨⟨none,0,rfl⟩,.inl ⟨rfl,rfl⟩⟩,fun t ht=>by cases ht⟩
 ·rw [if_pos rfl] at hz
  have hb:∀ z ∈ zs,0<=z/\z < 65536:=fun z hzm=>by
   have h:=bounds_u16 (hwf z hzm)
   omega
  have hll:((zs.take len).map Int.toNat).length=len:=by rw [List.length_map,List.length_take,hz];omega
  refine ⟨_,(zs.take len).map Int.toNat,hcs,?_,fun t ht=>?_⟩
  ·rw [hll]
   refine ⟨⟨some a,cap,rfl⟩,?_⟩
   rcases Nat.eq_zero_or_pos len with h0 | h0
   ·left;subst h0;exact ⟨rfl,rfl⟩
   ·right
    obtain ⟨b,o,sp⟩:=a
    have h1:=hcell 0 (by omega)
    have hsp:sp=none:=by simpa [Addr.add] using World.cell?_spot h1
    subst hsp
    refine sv_cells hl hm (by unfold u16s;rw [List.length_map,hll];exact h0) (fun i hi=>?_)
    have hi2:i < len:=by unfold u16s at hi;rw [List.length_map,hll] at hi;exact hi
    have h2:=hcell i (by omega)
    rw [add_at9] at h2
    rw [h2]
    have hi3:i < zs.length:=by omega
    have h3:=hb zs[i] (List.getElem_mem hi3)
    simp only [u16s,List.getElem_map,List.getElem_take,List.getD_eq_getElem?_getD,List.getElem?_eq_getElem hi3,Option.getD_some]
    rw [Int.toNat_of_nonneg h3.1]
  ·obtain ⟨z,hz2,rfl⟩:=List.mem_map.1 ht
   have h3:=hb z (List.mem_of_mem_take hz2)
   omega
theorem byte9 (x:Int) (h:(Lit.int .u8 x).wf=true):∃ k:Nat,x=(k:Int)/\k < 256:=by
 have h2:=bounds_u8 h
 exact ⟨x.toNat,by omega,by omega⟩
set_option maxRecDepth 100000 in
theorem sr_open {H:Type} {enc:TypeId × Value->H} {w:World} {base:Nat} {held:Bool} {n:Nat} {cs:List Value} {x:DataW H × List MemPlace} (h:DataW.trod enc prog w base (fun _=>true) held n 72 cs=some x) :
  ∃ v:SrX,cs=SrX.cells v/\SrIn w v:=by
 obtain ⟨xs,m,_,rfl,hlen,hxl,hf⟩:=DataW.trod_struct underlying72 h
 have hx:xs.length=5:=hxl
 have hc:cs.length=5:=hlen.trans (by kernel_rfl)
 match cs,hc with
 | [c0,c1,c2,c3,c4],_ =>
  have e5:prog.cellsOf 5=1:=by kernel_rfl
  have e7:prog.cellsOf 70=1:=by kernel_rfl
  have g0:DataW.trod enc prog w base (fun _=>true) held m 5 (([c0,c1,c2,c3,c4].drop 0).take (prog.cellsOf 5))=xs[0]?:=hf 0 _ rfl
  rw [e5,List.getElem?_eq_getElem (by omega)] at g0
  have g1:DataW.trod enc prog w base (fun _=>true) held m 5 (([c0,c1,c2,c3,c4].drop 1).take (prog.cellsOf 5))=xs[1]?:=hf 1 _ rfl
  rw [e5,List.getElem?_eq_getElem (by omega)] at g1
  have g2:DataW.trod enc prog w base (fun _=>true) held m 70 (([c0,c1,c2,c3,c4].drop 2).take (prog.cellsOf 70))=xs[2]?:=hf 2 _ rfl
  rw [e7,List.getElem?_eq_getElem (by omega)] at g2
  have g3:DataW.trod enc prog w base (fun _=>true) held m 5 (([c0,c1,c2,c3,c4].drop 3).take (prog.cellsOf 5))=xs[3]?:=hf 3 _ rfl
  rw [e5,List.getElem?_eq_getElem (by omega)] at g3
  have g4:DataW.trod enc prog w base (fun _=>true) held m 5 (([c0,c1,c2,c3,c4].drop 4).take (prog.cellsOf 5))=xs[4]?:=hf 4 _ rfl
  rw [e5,List.getElem?_eq_getElem (by omega)] at g4
  obtain ⟨n0,z0,_,w0⟩:=DataW.trod_int underlying5 g0
  obtain ⟨n1,z1,_,w1⟩:=DataW.trod_int underlying5 g1
  obtain ⟨n3,z3,_,w3⟩:=DataW.trod_int underlying5 g3
  obtain ⟨n4,z4,_,w4⟩:=DataW.trod_int underlying5 g4
  simp only [List.drop_zero,List.drop_succ_cons,List.take_succ_cons,List.take_zero,List.cons.injEq,and_true] at z0 z1 z3 z4 g2
  subst z0 z1 z3 z4
  obtain ⟨v,l,hcs,hl,ht⟩:=u16s_open g2
  simp only [List.cons.injEq,and_true] at hcs
  subst hcs
  obtain ⟨k0,rfl,-⟩:=byte9 n0 w0
  obtain ⟨k1,rfl,-⟩:=byte9 n1 w1
  obtain ⟨k3,rfl,-⟩:=byte9 n3 w3
  obtain ⟨k4,rfl,-⟩:=byte9 n4 w4
  exact ⟨⟨⟨k0,k1,l,k3,k4⟩,_⟩,rfl,hl,ht⟩
set_option maxRecDepth 100000 in
theorem srs_open {H:Type} {enc:TypeId × Value->H} {w:World} {base:Nat} {held:Bool} {fuel:Nat} {cs:List Value} {x:DataW H × List MemPlace}
  (h:DataW.trod enc prog w base (fun _=>true) held fuel 22 cs=some x):∃ a len cap,∃ l:List SrX,cs=[.slice a len cap]/\SrsIn w a len l/\(len<=cap/\cap<=maxLen\/len=0):=by
 rcases Go.Deep.open_slice underlying22 h with ⟨hcs,_⟩ | ⟨ad,len,cap,m,n,D,Pl,hcs,_,hl,hm9,hm,_,hx⟩
 ·exact ⟨none,0,0,[],hcs,⟨rfl,(fun x hx=>by cases hx),fun cap _=>⟨⟨none,cap,rfl⟩,.inl ⟨rfl,rfl⟩⟩⟩,.inr rfl⟩
 ·have hlm:len<=m:=by rw [hm];split <;> omega
  obtain ⟨b,o,sp⟩:=ad
  have e7:prog.cellsOf 72=5:=by kernel_rfl
  have hsp:0 < len->sp=none:=fun h0=>by
   obtain ⟨cs',h1,_⟩:=hx 0 (by omega)
   rw [e7] at h1
   obtain ⟨_,hlen,hcell⟩:=World.cells?_some h1
   have h2:=hcell 0 (by omega)
   rw [List.getElem?_eq_getElem (by omega)] at h2
   simpa [Addr.add] using World.cell?_spot h2
  have key:∀ i,i < len->∃ v:SrX,sp=none/\w.rangeAt b (o+i*5) (SrX.cells v)/\SrIn w v:=fun i hi=>by
   obtain ⟨cs',h1,h2⟩:=hx i (by omega)
   have hs:=hsp (by omega)
   subst hs
   rw [e7,add_at9] at h1
   obtain ⟨v,rfl,hv⟩:=sr_open h2
   exact ⟨v,rfl,(cells9 h1).2,hv⟩
  obtain ⟨f,hf⟩:=Go.Deep.choose_lt key
  have hlen:((List.range len).map f).length=len:=by simp
  refine ⟨some ⟨b,o,sp⟩,len,cap,(List.range len).map f,hcs,⟨hlen,fun p hp=>?_,fun cap2 hc2=>⟨⟨_,_,rfl⟩,?_⟩⟩,.inl ⟨hl,hm9⟩⟩
  ·obtain ⟨i,hi,rfl⟩:=List.mem_map.1 hp
   exact (hf i (List.mem_range.1 hi)).2.2
  ·rcases Nat.eq_zero_or_pos len with h0 | h0
   ·left;subst h0;exact ⟨rfl,rfl⟩
   ·right
    have hs:=hsp h0
    subst hs
    have hfl:=flat_length SrX.cells_length ((List.range len).map f)
    rw [hlen] at hfl
    have hcc:len<=cap2/\cap2<=maxLen:=hc2.elim id (fun e=>by omega)
    refine sv_cells hcc.1 hcc.2 (by omega) (fun i hi=>?_)
    have hi5:i < len*5:=by omega
    have hq:i / 5 < len:=by omega
    have hqr:i / 5 < ((List.range len).map f).length:=by rw [hlen];exact hq
    have hg:((List.range len).map f)[i / 5]=f (i / 5):=by simp
    have hr:i % 5 < (SrX.cells (f (i / 5))).length:=by rw [SrX.cells_length];omega
    have h1:=flat_get SrX.cells_length ((List.range len).map f) hqr (j:=i % 5) (u:=(SrX.cells (f (i / 5)))[i % 5]) (by rw [hg];exact List.getElem?_eq_getElem hr)
    rw [Nat.div_add_mod'] at h1
    have h2:=(hf (i / 5) hq).2.1 (i % 5) _ (List.getElem?_eq_getElem hr)
    rw [Nat.add_assoc,Nat.div_add_mod'] at h2
    rw [h2]
    rw [List.getElem?_eq_getElem hi] at h1
    exact h1.symm
end Go.Proofs.YtgiigemfbebcgaaGreatDoor
