/-
  Layers 0 to 14: helps of the laws of indexes. No statement is proved here; no condition.
-/
import Derived.Test.YtmppeipgjcjdkaaGreatDoorW05
import Derived.Test.YtmppeipgjcjdkaaGreatDoorW04
import Derived.Test.YtmppeipgjcjdkaaGreatDoorW00
import Derived.ChangeSlices
import Derived.OpenShut
import Derived.Deep.Slices
import Derived.ProofKit
import Derived.ChangeOld
namespace Go.Proofs.YtmppeipgjcjdkaaGreatDoor
open _root_.Go.Proofs.Tryz
open Go.ChangeShapes Go.WideShapes Go.ChangeAt Go.RowKit
structure FlX where
 f:Fl
 v:Value
def FlX.cells (x:FlX):List Value:=[strV x.f.path,.bool x.f.dir,x.v]
theorem FlX.cells_length (x:FlX):x.cells.length=3:=rfl
instance:Inhabited FlX:=⟨⟨⟨[],false,[]⟩,.slice none 0 0⟩⟩
def FlIn (w:World) (x:FlX):Prop:=SvX w No x.v x.f.b.length (bv x.f.b)
theorem FlIn.no {w w':World} {x:FlX} (h:FlIn w x) (hm:Mod No w w'):FlIn w' x:=h.kn hm
def FlsIn (w:World) (a:Option Addr) (len:Nat) (xs:List FlX):Prop:=xs.length=len/\(∀ x ∈ xs,FlIn w x)/\∀ cap,(len<=cap/\cap<=maxLen\/len=0)->SvX w No (.slice a len cap) len (xs.flatMap FlX.cells)
theorem add_atF (b o i:Nat):(⟨b,o,none⟩:Addr).add i=⟨b,o+i,none⟩:=by
 unfold Addr.add
 split
 ·rename_i h;subst h;rfl
 ·rfl
theorem cellsF {w:World} {base b o c:Nat} {cs:List Value} (h:w.cells? base (⟨b,o,none⟩:Addr) c=some cs):cs.length=c/\∀ j u,cs[j]? = some u->w.cell? ⟨b,o+j,none⟩=some u:=by
 obtain ⟨_,hlen,hcell⟩:=World.cells?_some h
 refine ⟨hlen,fun j u hj=>?_⟩
 have hj7:j < c:=by have:=(List.getElem?_eq_some_iff.1 hj).1;omega
 have:=hcell j hj7
 rw [hj,add_atF] at this
 exact this
theorem sv_cellsF {w:World} {b o len cap:Nat} {xs:List Value} (hl:len<=cap) (hm:cap<=maxLen) (hx:0 < xs.length) (hc:∀ i (hi:i < xs.length),w.cell? ⟨b,o+i,none⟩=some xs[i]):∃ e,Sl w No e (.slice (some ⟨b,o,none⟩) len cap) len xs:=by
 have h0:=hc 0 hx
 cases hh:w.heap[b]? with
 | none=>simp [World.cell?,hh] at h0
 | some ob =>
  cases ob with
  | cells cur e fz =>
   have hcs:∀ i (hi:i < xs.length),cur[o+i]? = some xs[i]:=fun i hi=>by
    have h:=hc i hi
    simpa [World.cell?,hh] using h
   refine ⟨e,.inr ⟨b,o,cap,cur,fz,rfl,hl,hm,fun f=>f,hh,?_,fun i hi=>by rw [hcs i hi,List.getElem?_eq_getElem hi]⟩⟩
   have h9:=hcs (xs.length - 1) (by omega)
   have h8:=(Array.getElem?_eq_some_iff.1 h9).1
   omega
  | _=>simp [World.cell?,hh] at h0
theorem bv_ints {zs:List Int} (h:∀ z ∈ zs,0<=z/\z < 256):bv (zs.map fun z=>UInt8.ofNat z.toNat)=zs.map fun z=>.int .u8 z:=by
 unfold bv
 rw [List.map_map]
 refine List.map_congr_left fun z hz=>?_
 have hb:=h z hz
 have e:((UInt8.ofNat z.toNat).toNat:Int)=z:=by
  rw [UInt8.toNat_ofNat']
  omega
 show Value.int .u8 ((UInt8.ofNat z.toNat).toNat:Int)=_
 rw [e]
set_option maxRecDepth 100000 in
theorem bytes_open {H:Type} {enc:TypeId × Value->H} {w:World} {base:Nat} {held:Bool} {fuel:Nat} {cs:List Value} {x:DataW H × List MemPlace} (h:DataW.trod enc prog w base (fun _=>true) held fuel 41 cs=some x) :
  ∃ (v:Value) (l:List UInt8),cs=[v]/\SvX w No v l.length (bv l):=by
 rcases open_ints underlying41 underlying5 (by kernel_rfl) h with ⟨hcs,_⟩ | ⟨a,len,cap,zs,hcs,_,hl,hm,hz,_,hcell,hwf⟩
 ·exact ⟨_,[],hcs,⟨⟨none,0,rfl⟩,.inl ⟨rfl,rfl⟩⟩⟩
 ·rw [if_pos rfl] at hz
  have hb:∀ z ∈ zs.take len,0<=z/\z < 256:=fun z hzm=>by
   have h:=bounds_u8 (hwf z (List.mem_of_mem_take hzm))
   omega
  have hll:(zs.take len).length=len:=by rw [List.length_take,hz];omega
  refine ⟨_,(zs.take len).map fun z=>UInt8.ofNat z.toNat,hcs,?_⟩
  rw [bv_ints hb,List.length_map,hll]
  refine ⟨⟨some a,cap,rfl⟩,?_⟩
  rcases Nat.eq_zero_or_pos len with h0 | h0
  ·left;subst h0;exact ⟨rfl,rfl⟩
  ·right
   obtain ⟨b,o,sp⟩:=a
   have h1:=hcell 0 (by omega)
   have hsp:sp=none:=by simpa [Addr.add] using World.cell?_spot h1
   subst hsp
   refine sv_cellsF hl hm (by rw [List.length_map,hll];exact h0) (fun i hi=>?_)
   have hi2:i < len:=by rw [List.length_map,hll] at hi;exact hi
   have h2:=hcell i (by omega)
   rw [add_atF] at h2
   rw [h2]
   have hi3:i < zs.length:=by omega
   simp only [List.getElem_map,List.getElem_take,List.getD_eq_getElem?_getD,List.getElem?_eq_getElem hi3,Option.getD_some]
set_option maxRecDepth 100000 in
theorem fl_open {H:Type} {enc:TypeId × Value->H} {w:World} {base:Nat} {held:Bool} {n:Nat} {cs:List Value} {x:DataW H × List MemPlace} (h:DataW.trod enc prog w base (fun _=>true) held n 51 cs=some x) :
  ∃ v:FlX,cs=FlX.cells v/\FlIn w v:=by
 obtain ⟨xs,m,_,rfl,hlen,hxl,hf⟩:=DataW.trod_struct underlying51 h
 have hx:xs.length=3:=hxl
 have hc:cs.length=3:=hlen.trans (by kernel_rfl)
 match cs,hc with
 | [c0,c1,c2],_ =>
  have e5:prog.cellsOf 9=1:=by kernel_rfl
  have e6:prog.cellsOf 4=1:=by kernel_rfl
  have e7:prog.cellsOf 41=1:=by kernel_rfl
  have g0:DataW.trod enc prog w base (fun _=>true) held m 9 (([c0,c1,c2].drop 0).take (prog.cellsOf 9))=xs[0]?:=hf 0 _ rfl
  rw [e5,List.getElem?_eq_getElem (by omega)] at g0
  have g1:DataW.trod enc prog w base (fun _=>true) held m 4 (([c0,c1,c2].drop 1).take (prog.cellsOf 4))=xs[1]?:=hf 1 _ rfl
  rw [e6,List.getElem?_eq_getElem (by omega)] at g1
  have g2:DataW.trod enc prog w base (fun _=>true) held m 41 (([c0,c1,c2].drop 2).take (prog.cellsOf 41))=xs[2]?:=hf 2 _ rfl
  rw [e7,List.getElem?_eq_getElem (by omega)] at g2
  obtain ⟨s0,z0,-,-⟩:=DataW.trod_string underlying9 g0
  obtain ⟨b1,z1,_⟩:=DataW.trod_bool underlying4 g1
  simp only [List.drop_zero,List.drop_succ_cons,List.take_succ_cons,List.take_zero,List.cons.injEq,and_true] at z0 z1 g2
  subst z0 z1
  obtain ⟨v,l,hcs,hl⟩:=bytes_open g2
  simp only [List.cons.injEq,and_true] at hcs
  subst hcs
  exact ⟨⟨⟨s0.data.toList,b1,l⟩,_⟩,rfl,hl⟩
set_option maxRecDepth 100000 in
theorem fls_open {H:Type} {enc:TypeId × Value->H} {w:World} {base:Nat} {held:Bool} {fuel:Nat} {cs:List Value} {x:DataW H × List MemPlace}
  (h:DataW.trod enc prog w base (fun _=>true) held fuel 22 cs=some x):∃ a len cap,∃ l:List FlX,cs=[.slice a len cap]/\FlsIn w a len l/\(len<=cap/\cap<=maxLen\/len=0):=by
 rcases Go.Deep.open_slice underlying22 h with ⟨hcs,_⟩ | ⟨ad,len,cap,m,n,D,Pl,hcs,_,hl,hm9,hm,_,hx⟩
 ·exact ⟨none,0,0,[],hcs,⟨rfl,(fun x hx=>by cases hx),fun cap _=>⟨⟨none,cap,rfl⟩,.inl ⟨rfl,rfl⟩⟩⟩,.inr rfl⟩
 ·have hlm:len<=m:=by rw [hm];split <;> omega
  obtain ⟨b,o,sp⟩:=ad
  have e7:prog.cellsOf 51=3:=by kernel_rfl
  have hsp:0 < len->sp=none:=fun h0=>by
   obtain ⟨cs',h1,_⟩:=hx 0 (by omega)
   rw [e7] at h1
   obtain ⟨_,hlen,hcell⟩:=World.cells?_some h1
   have h2:=hcell 0 (by omega)
   rw [List.getElem?_eq_getElem (by omega)] at h2
   simpa [Addr.add] using World.cell?_spot h2
  have key:∀ i,i < len->∃ v:FlX,sp=none/\w.rangeAt b (o+i*3) (FlX.cells v)/\FlIn w v:=fun i hi=>by
   obtain ⟨cs',h1,h2⟩:=hx i (by omega)
   have hs:=hsp (by omega)
   subst hs
   rw [e7,add_atF] at h1
   obtain ⟨v,rfl,hv⟩:=fl_open h2
   exact ⟨v,rfl,(cellsF h1).2,hv⟩
  obtain ⟨f,hf⟩:=Go.Deep.choose_lt key
  have hlen:((List.range len).map f).length=len:=by simp
  refine ⟨some ⟨b,o,sp⟩,len,cap,(List.range len).map f,hcs,⟨hlen,fun p hp=>?_,fun cap2 hc2=>⟨⟨_,_,rfl⟩,?_⟩⟩,.inl ⟨hl,hm9⟩⟩
  ·obtain ⟨i,hi,rfl⟩:=List.mem_map.1 hp
   exact (hf i (List.mem_range.1 hi)).2.2
  ·rcases Nat.eq_zero_or_pos len with h0 | h0
   ·left;subst h0;exact ⟨rfl,rfl⟩
   ·right
    have hs:=hsp h0
    subst hs
    have hfl:=flat_length FlX.cells_length ((List.range len).map f)
    rw [hlen] at hfl
    have hcc:len<=cap2/\cap2<=maxLen:=hc2.elim id (fun e=>by omega)
    refine sv_cellsF hcc.1 hcc.2 (by omega) (fun i hi=>?_)
    have hi3:i < len*3:=by omega
    have hq:i / 3 < len:=by omega
    have hqr:i / 3 < ((List.range len).map f).length:=by rw [hlen];exact hq
    have hg:((List.range len).map f)[i / 3]=f (i / 3):=by simp
    have hr:i % 3 < (FlX.cells (f (i / 3))).length:=by rw [FlX.cells_length];omega
    have h1:=flat_get FlX.cells_length ((List.range len).map f) hqr (j:=i % 3) (u:=(FlX.cells (f (i / 3)))[i % 3]) (by rw [hg];exact List.getElem?_eq_getElem hr)
    rw [Nat.div_add_mod'] at h1
    have h2:=(hf (i / 3) hq).2.1 (i % 3) _ (List.getElem?_eq_getElem hr)
    rw [Nat.add_assoc,Nat.div_add_mod'] at h2
    rw [h2]
    rw [List.getElem?_eq_getElem hi] at h1
    exact h1.symm
theorem fls_cells {w:World} {b o c:Nat} {xs:List FlX} (h:SvX w No (.slice (some ⟨b,o,none⟩) xs.length c) xs.length (xs.flatMap FlX.cells)) {k:Nat} (hk:k < xs.length) :
  w.cell? ⟨b,o+k*3,none⟩=some (strV xs[k].f.path)/\w.cell? ⟨b,o+k*3+1,none⟩=some (.bool xs[k].f.dir)/\w.cell? ⟨b,o+k*3+2,none⟩=some xs[k].v:=by
 have hl:=flat_length FlX.cells_length xs
 have key:∀ i u,(FlX.cells xs[k])[i]? = some u->w.cell? ⟨b,o+(k*3+i),none⟩=some u:=fun i u hu=>by
  have h1:=flat_get FlX.cells_length xs hk hu
  obtain ⟨h2,h3⟩:=List.getElem?_eq_some_iff.1 h1
  rw [h.cellN h2,h3]
 exact ⟨key 0 _ rfl,key 1 _ rfl,key 2 _ rfl⟩
end Go.Proofs.YtmppeipgjcjdkaaGreatDoor
namespace Go.Proofs.YtmppeipgjcjdkaaGreatDoor
open _root_.Go.Proofs.Tryz
open Go.RowKit
def RTr (w:World) (X:Nat->Prop) (q:Nat) (t:Tr):Prop :=
 ∃ (tv:Value) (ys:List FlX),w.heap[q]? = some (.cells #[tv] 64 (0,0))/\ys.map FlX.f=t/\Sl w X 51 tv ys.length (ys.flatMap FlX.cells)/\∀ y ∈ ys,Sl w X 5 y.v y.f.b.length (bv y.f.b)
theorem RTr.keep {S X:Nat->Prop} {w w':World} {q:Nat} {t:Tr} (h:RTr w X q t) (hm:Mod S w w') (hq:¬ S q) (hs:∀ k,S k->X k):RTr w' X q t:=by
 obtain ⟨tv,ys,h1,h2,h3,h4⟩:=h
 exact ⟨tv,ys,hm.keep h1 hq,h2,h3.keep hm (fun k _ _ a b=>(b (hs k a)).elim),fun y hy=>(h4 y hy).keep hm (fun k _ _ a b=>(b (hs k a)).elim)⟩
theorem RTr.no {X:Nat->Prop} {w w':World} {q:Nat} {t:Tr} (h:RTr w X q t) (hm:Mod No w w'):RTr w' X q t:=h.keep hm (fun f=>f) (fun _ f=>f.elim)
theorem at_first {ys:List FlX} {p:List UInt8} {k:Nat} (hk:k < ys.length) (hn:∀ i (hi:i < ys.length),i < k->ys[i].f.path ≠ p) (he:ys[k].f.path=p):atT (ys.map FlX.f) p=some ys[k].f:=by
 induction ys generalizing k with
 | nil=>cases hk
 | cons y ys ih =>
  rw [List.map_cons,at_cons]
  rcases k with _ | k
  ·rw [if_pos (show y.f.path=p from he)];rfl
  ·rw [if_neg (show y.f.path ≠ p from hn 0 (by simp) (by omega))]
   exact ih (by simpa using hk) (fun i hi hik=>by have:=hn (i+1) (by simpa using hi) (by omega);simpa using this) (by simpa using he)
theorem at_never {ys:List FlX} {p:List UInt8} (hn:∀ i (hi:i < ys.length),ys[i].f.path ≠ p):atT (ys.map FlX.f) p=none:=by
 induction ys with
 | nil=>rfl
 | cons y ys ih =>
  rw [List.map_cons,at_cons,if_neg (show y.f.path ≠ p from hn 0 (by simp))]
  exact ih (fun i hi=>by have:=hn (i+1) (by simpa using hi);simpa using this)
def AtZ (t:Tr) (p:List UInt8) (z:Int):Prop:=(z = -1/\atT t p=none)\/∃ (k:Nat) (f:Fl),z=(k:Int)/\t[k]? = some f/\atT t p=some f
set_option maxRecDepth 100000 in
set_option maxHeartbeats 4000000 in
theorem rat_any {X:Nat->Prop} {w:World} {q:Nat} {t:Tr} (h:RTr w X q t) (p:List UInt8) (ht:t.length<=1000000) :
  Calls prog 56 #[.pointer (some ⟨q,0,none⟩),strV p] w fun e w'=>(∃ z,e=.returned (.int .i64 z)/\AtZ t p z)/\w'=w:=by
 refine calls_hide fun R hR=>?_
 obtain ⟨tv,ys,h1,rfl,h3,-⟩:=h
 rw [List.length_map] at ht
 have HS:=zh h3
 obtain ⟨ta,tc,rfl⟩:=h3.len
 have c0:=cell_ofA h1 (i:=0) rfl
 obtain ⟨P,hP⟩:∃ P:ByteArray,P=⟨p.toArray⟩:=⟨_,rfl⟩
 have hPT:P.toList=p:=by rw [hP];exact str_list p
 unfold strV
 rw [<- hP]
 clear h1 h3 hP
 go_enter func56,ntmps56
 go_wp2_with fail
 go_loopw [5] (fun q5 wr=>∃ k:Nat,k<=ys.length/\q5=.int .i64 (k:Int)/\wr=w/\∀ i (hi:i < ys.length),i < k->ys[i].f.path ≠ p) (fun q _=>ys.length - (intOf q).toNat)
 case atStart=>exact ⟨0,by omega,rfl,rfl,fun i _ hi=>absurd hi (by omega)⟩
 case round =>
  obtain ⟨k,hk,rfl,rfl,hall⟩:=hrel
  have hk0:(0:Int)<=(k:Int):=Int.natCast_nonneg _
  have HA:=zh hall
  clear hall
  by_cases hlt:k < ys.length
  ·have hk1:(k:Int) < (ys.length:Int):=by omega
   obtain ⟨b,o,c,hvs,-⟩:=HS.out.shape (by omega)
   cases hvs
   obtain ⟨d0,-,-⟩:=fls_cells ((SvX.of HS.out).shrink (fun _ _ f=>f.elim)) hlt
   have hT:=str_list ys[k].f.path
   have HF:=zh (fun he=>at_first (p:=p) hlt HA.out he)
   have HG:=zh (show (ys.map FlX.f)[k]? = some ys[k].f by rw [List.getElem?_map,List.getElem?_eq_getElem hlt];rfl)
   have HN:=zh (show ys[k].f.path ≠ p->∀ i (hi:i < ys.length),i < k+1->ys[i].f.path ≠ p from fun he i hi hik=>by
    rcases Nat.lt_or_ge i k with h | h
    ·exact HA.out i hi h
    ·obtain rfl:i=k:=by omega
     exact he)
   generalize ys[k].f=f at *
   unfold strV at d0
   generalize (⟨f.path.toArray⟩:ByteArray)=FP at *
   by_cases he:f.path=p
   ·have hb:(FP.toList == P.toList)=true:=by rw [hT,hPT,he];simp
    have HF2:=zh (HF.out he)
    clear hT hPT he HN
    go_wp2_with fail
    exact fin hR ⟨⟨_,rfl,.inr ⟨k,f,rfl,HG.out,HF2.out⟩⟩,rfl⟩
   ·have hb:(FP.toList == P.toList)=false:=by rw [hT,hPT];simpa using he
    have HN2:=zh (HN.out he)
    clear hT hPT he HN
    go_wp2_with fail
    exact ⟨⟨k+1,by omega,rfl,trivial,HN2.out⟩,by show ys.length - ((k:Int)+1).toNat < ys.length - (k:Int).toNat;omega⟩
  ·have hk1:¬ (k:Int) < (ys.length:Int):=by omega
   have HE:=zh (at_never (p:=p) (fun i hi=>HA.out i hi (by omega)))
   go_wp2_with fail
   exact fin hR ⟨⟨_,rfl,.inl ⟨rfl,HE.out⟩⟩,rfl⟩
theorem sizeT_snoc (t:Tr) (f:Fl):sizeT (t++[f])=sizeT t+f.b.length:=by simp [sizeT]
theorem sizeT_mono (t u:Tr):sizeT t<=sizeT (t++u):=by simp [sizeT]
set_option maxRecDepth 100000 in
set_option maxHeartbeats 4000000 in
theorem rsize_any {X:Nat->Prop} {w:World} {q:Nat} {t:Tr} (h:RTr w X q t) (ht:t.length<=1000000) (hz:sizeT t<=1000000000) :
  Calls prog 120 #[.pointer (some ⟨q,0,none⟩)] w fun e w'=>e=.returned (.int .i64 (sizeT t:Int))/\w'=w:=by
 refine calls_hide fun R hR=>?_
 obtain ⟨tv,ys,h1,rfl,h3,h4⟩:=h
 rw [List.length_map] at ht
 have HS:=zh h3
 have H4:=zh h4
 obtain ⟨ta,tc,rfl⟩:=h3.len
 have c0:=cell_ofA h1 (i:=0) rfl
 have HZ:=zh (fun k:Nat=>(show sizeT ((ys.map FlX.f).take k)<=1000000000 from by
  have:=sizeT_mono ((ys.map FlX.f).take k) ((ys.map FlX.f).drop k)
  rw [List.take_append_drop] at this
  omega))
 clear h1 h3 h4 hz
 go_enter func120,ntmps120
 go_wp2_with fail
 go_loopw [3,4] (fun s q4 wr=>∃ k:Nat,k<=ys.length/\q4=.int .i64 (k:Int)/\s=.int .i64 (sizeT ((ys.map FlX.f).take k):Int)/\wr=w) (fun _ q _=>ys.length - (intOf q).toNat)
 case atStart=>exact ⟨0,by omega,rfl,rfl,rfl⟩
 case round =>
  obtain ⟨k,hk,rfl,rfl,rfl⟩:=hrel
  have hk0:(0:Int)<=(k:Int):=Int.natCast_nonneg _
  by_cases hlt:k < ys.length
  ·have hk1:(k:Int) < (ys.length:Int):=by omega
   obtain ⟨b,o,c,hvs,-⟩:=HS.out.shape (by omega)
   cases hvs
   obtain ⟨-,-,d2⟩:=fls_cells ((SvX.of HS.out).shrink (fun _ _ f=>f.elim)) hlt
   obtain ⟨fa,fc,hbe⟩:=(H4.out _ (List.getElem_mem hlt)).len
   have hs1:=HZ.out (k+1)
   have hs2:sizeT ((ys.map FlX.f).take (k+1))=sizeT ((ys.map FlX.f).take k)+ys[k].f.b.length:=by
    rw [List.take_succ_eq_append_getElem (by rw [List.length_map];exact hlt),sizeT_snoc,List.getElem_map]
   rw [hbe] at d2
   have HS2:=zh hs2
   rw [hs2] at hs1
   generalize sizeT ((ys.map FlX.f).take k)=s0 at *
   generalize ys[k].f.b.length=bl at *
   clear hs2 hbe
   go_wp2_with fail
   exact ⟨⟨k+1,by omega,rfl,by rw [HS2.out];rfl,trivial⟩,by show ys.length - ((k:Int)+1).toNat < ys.length - (k:Int).toNat;omega⟩
  ·have hk1:¬ (k:Int) < (ys.length:Int):=by omega
   have HE:=zh (show (ys.map FlX.f).take k=ys.map FlX.f from List.take_of_length_le (by rw [List.length_map];omega))
   rw [HE.out]
   go_wp2_with fail
   exact fin hR ⟨rfl,rfl⟩
theorem info_fx:(prog.info? 51).map (fun i=>(i.zero,i.size,i.bytes))=some (some (.agg #[.string ⟨#[]⟩,.bool false,.slice none 0 0]),3,48):=by kernel_rfl
set_option maxRecDepth 100000 in
theorem load_fx {w:World} {b:Nat} {cs:List Value} (hc:cs.length=3) (h:w.heap[b]? = some (.cells cs.toArray 51 (0,0))) :
  (loadVar 51 ⟨b,0,none⟩).run prog w=.ok (.agg cs.toArray) w :=
 run_loadVar_row (P:=prog) w b 51 51 cs.toArray (0,0) _ h underlying51 rfl (by rw [List.size_toArray,hc];kernel_rfl)
theorem fx_head (g o n c k:Nat) (hk:k<=n) (hn:n<=c) (W:World):(Instr.sliceAt 22 (.slice (some ⟨g,o,none⟩) n c) none (some (.int .i64 (k:Int))) (some (.int .i64 (k:Int)))).run prog W=.ok (.slice (some ⟨g,o,none⟩) k k) W:=by
 have h1:(0:Int)<=(k:Int):=Int.natCast_nonneg _
 have h2:(k:Int)<=(c:Int):=by omega
 go_simp
theorem fx_tail (g o n c k:Nat) (hk:k<=n) (hn:n<=c) (W:World):(Instr.sliceAt 22 (.slice (some ⟨g,o,none⟩) n c) (some (.int .i64 (k:Int))) none none).run prog W=.ok (.slice (some ⟨g,if c=k then o else o+k*3,none⟩) (n - k) (c - k)) W:=by
 have h1:(0:Int)<=(k:Int):=Int.natCast_nonneg _
 have h2:(k:Int)<=(n:Int):=by omega
 have h3:(n:Int)<=(c:Int):=by omega
 go_simp
 split <;> rfl
theorem fx_nil (W:World):(Instr.sliceAt 22 (.slice none 0 0) none (some (.int .i64 ((0:Nat):Int))) (some (.int .i64 ((0:Nat):Int)))).run prog W=.ok (.slice none 0 0) W/\(Instr.sliceAt 22 (.slice none 0 0) (some (.int .i64 ((0:Nat):Int))) none none).run prog W=.ok (.slice none 0 0) W:=⟨by go_simp,by go_simp⟩
theorem fx_parts {w:World} {v:Value} {n:Nat} {xs:List Value} (h:Sl w No 51 v n xs) (hx:xs.length=n*3) {k:Nat} (hk:k<=n) :
  ∃ sv tv,(∀ W:World,(Instr.sliceAt 22 v none (some (.int .i64 (k:Int))) (some (.int .i64 (k:Int)))).run prog W=.ok sv W)/\(∀ W:World,(Instr.sliceAt 22 v (some (.int .i64 (k:Int))) none none).run prog W=.ok tv W) ∧
   ((sv=.slice none 0 0/\k=0/\xs.take (k*3)=[])\/∃ a0,sv=.slice (some a0) k k/\(xs.take (k*3)).length=k*3/\∀ j u,(xs.take (k*3))[j]? = some u->w.cell? (a0.add j)=some u) ∧
   Sl w No 51 tv (n - k) (xs.drop (k*3))/\(xs.drop (k*3)).length=(n - k)*3:=by
 have hld:(xs.drop (k*3)).length=(n - k)*3:=by rw [List.length_drop,hx];omega
 rcases h with ⟨rfl,rfl,rfl⟩ | ⟨g,o,c,cur,fz,rfl,hn,hc,hX,hh,hl,hr⟩
 ·obtain rfl:k=0:=by omega
  exact ⟨.slice none 0 0,.slice none 0 0,fun W=>(fx_nil W).1,fun W=>(fx_nil W).2,.inl ⟨rfl,rfl,rfl⟩,.inl ⟨rfl,rfl,rfl⟩,hld⟩
 ·refine ⟨_,_,fx_head g o n c k hk hn,fx_tail g o n c k hk hn,.inr ⟨_,rfl,by rw [List.length_take,hx];omega,fun j u e=>?_⟩,.inr ⟨g,if c=k then o else o+k*3,c - k,cur,fz,rfl,by omega,by omega,fun f=>f,hh,?_,fun i hi=>?_⟩,hld⟩
  ·have hj:=(List.getElem?_eq_some_iff.1 e).1
   rw [List.length_take] at hj
   rw [List.getElem?_take,if_pos (by omega)] at e
   rw [Addr.add_mid]
   exact cell_ofA hh ((hr j (by omega)).trans e)
  ·rw [hld]
   split
   ·have:n - k=0:=by omega
    rw [this];omega
   ·omega
  ·rw [hld] at hi
   rw [if_neg (by intro e;have:n - k=0:=(by omega);rw [this] at hi;omega),List.getElem?_drop,<- hr (k*3+i) (by omega),Nat.add_assoc]
set_option maxRecDepth 100000 in
theorem fx_new {w:World} {cs:List Value} {o:Oper} {ρ:Operand->Value} (hc:cs.length=3) (x:Operand) (ho:o.op=.buildSlice 22 1 #[(0,x)]) (hx:ρ x=.agg cs.toArray) :
  (execOp ρ o).run prog w=.ok (.value (.slice (some ⟨w.heap.size,0,none⟩) 1 1)) (w.alloc (.cells cs.toArray 51)):=by
 obtain ⟨i0,hi,hz0,hz1,hz2⟩:=info_parts info_fx
 have h:=run_buildSlice (P:=prog) w 22 51 1 #[(0,.agg cs.toArray)] cs.toArray i0 _ underlying22 hi hz0 (by rw [hz1];omega) (by rw [hz1];omega) (by
  rw [hz1]
  have h2:=Great.fill_whole (s:=3) (by decide) [Value.agg cs.toArray] ((Array.range (1*3)).map ((Value.agg #[.string ⟨#[]⟩,.bool false,.slice none 0 0]).cells[· % (Value.agg #[.string ⟨#[]⟩,.bool false,.slice none 0 0]).cells.size]!)) (fun v hv=>by
   simp at hv
   subst hv
   show cs.toArray.size=3
   simp [hc]) (by simp)
  have h3:[Value.agg cs.toArray].flatMap (fun v=>v.cells.toList)=cs:=by
   show cs.toArray.toList++[]=cs
   simp
  rw [h3] at h2
  exact h2)
 unfold execOp
 simp only [ho,List.map_toArray,List.map_cons,List.map_nil,hx,Sem.run_bind]
 erw [h]
 rfl
def RX (B q:Nat):Nat->Prop:=fun k=>k=q\/k < B
theorem put_there {x:FlX}:∀ {ys:List FlX} {k:Nat} (hk:k < ys.length) (_:∀ i (hi:i < ys.length),i < k->ys[i].f.path < x.f.path) (_:ys[k].f.path=x.f.path),putT (ys.map FlX.f) x.f=(ys.take k++x :: ys.drop (k+1)).map FlX.f
 | y :: ys,0,_,_,he=>by
  rw [List.map_cons,putT,if_pos (show y.f.path=x.f.path from he)]
  rfl
 | y :: ys,k+1,hk,hl,he=>by
  have h1:y.f.path < x.f.path:=hl 0 (by simp) (by omega)
  have h2:y.f.path ≠ x.f.path:=fun e=>by rw [e] at h1;exact List.lt_irrefl _ h1
  rw [List.map_cons,putT,if_neg h2,if_pos h1,put_there (k:=k) (by simpa using hk) (fun i hi hik=>by have:=hl (i+1) (by simpa using hi) (by omega);simpa using this) (by simpa using he)]
  rfl
theorem put_new {x:FlX}:∀ {ys:List FlX} {k:Nat} (_:k<=ys.length) (_:∀ i (hi:i < ys.length),i < k->ys[i].f.path < x.f.path) (_:∀ hk:k < ys.length,¬ ys[k].f.path < x.f.path/\ys[k].f.path ≠ x.f.path),putT (ys.map FlX.f) x.f=(ys.take k++x :: ys.drop k).map FlX.f
 | [],k,hk,_,_=>by
  obtain rfl:k=0:=by simpa using hk
  rfl
 | y :: ys,0,_,_,he=>by
  have h:=he (by simp)
  rw [List.map_cons,putT,if_neg (show ¬ y.f.path=x.f.path from h.2),if_neg (show ¬ y.f.path < x.f.path from h.1)]
  rfl
 | y :: ys,k+1,hk,hl,he=>by
  have h1:y.f.path < x.f.path:=hl 0 (by simp) (by omega)
  have h2:y.f.path ≠ x.f.path:=fun e=>by rw [e] at h1;exact List.lt_irrefl _ h1
  rw [List.map_cons,putT,if_neg h2,if_pos h1,put_new (k:=k) (by simpa using hk) (fun i hi hik=>by have:=hl (i+1) (by simpa using hi) (by omega);simpa using this) (fun hk2=>by have:=he (by simpa using hk2);simpa using this)]
  rfl
theorem put_end {w W:World} {B q n:Nat} {v0 v':Value} {zs:List FlX} {t:Tr} {b:Nat} (hm:Mod No w W) (hB:B<=w.heap.size) (hb:w.heap.size<=b) (hq:w.heap[q]? = some (.cells #[v0] 64 (0,0)))
  (hown:W.ownsRow b 51 3 v' n (zs.flatMap FlX.cells)) (hn:zs.length=n) (ht:t=zs.map FlX.f) (hv:∀ y ∈ zs,Sl w (RX B q) 5 y.v y.f.b.length (bv y.f.b)) :
  RTr (W.setCell ⟨q,0,none⟩ v') (RX B q) q t/\Mod (fun p=>p=q) w (W.setCell ⟨q,0,none⟩ v'):=by
 have hm1:=Mod.cell1 W q 0 v'
 have hlq:q < w.heap.size:=lt_of_heap hq
 refine ⟨⟨v',zs,?_,ht.symm,?_,fun y hy=>?_⟩,(hm.weaken (fun _ _ f=>f.elim)).trans hm1⟩
 ·rw [heap_setCell (hm.keep hq (fun f=>f))]
  rfl
 ·subst hn
  refine (Sl.of_own (X:=RX B q) hown (fun k hk h=>?_)).keep hm1 (fun k _ _ a b=>(b (.inl a)).elim)
  rcases h with h | h <;> omega
 ·exact ((hv y hy).kn hm).keep hm1 (fun k _ _ a b=>(b (.inl a)).elim)
set_option maxRecDepth 100000 in
set_option maxHeartbeats 8000000 in
theorem rput_any {w:World} {B q:Nat} {t:Tr} (h:RTr w (RX B q) q t) (hB:B<=w.heap.size) (ht:t.length<=1000000) (x:FlX) (hx:Sl w (RX B q) 5 x.v x.f.b.length (bv x.f.b)) :
  Calls prog 121 #[.pointer (some ⟨q,0,none⟩),.agg x.cells.toArray] w fun e w'=>e=.returned (.tuple #[])/\RTr w' (RX B q) q (putT t x.f)/\Mod (fun p=>p=q) w w':=by
 refine calls_hide fun R hR=>?_
 obtain ⟨tv,ys,h1,rfl,h3,h4⟩:=h
 have HQ0:=zh h1
 have H4:=zh h4
 have HXV:=zh hx
 have HBW:=zh hB
 obtain ⟨va,vc,rfl⟩:=h3.len
 obtain ⟨xa,xc,hxe⟩:=hx.len
 obtain ⟨n,hn⟩:∃ n,n=ys.length:=⟨_,rfl⟩
 have HNL:=zh hn
 have hn2:n<=1000000:=by rw [List.length_map] at ht;omega
 have HV:=zh (show Sl w No 51 (.slice va n vc) n (ys.flatMap FlX.cells) by rw [hn];exact h3.shrink (fun _ _ f=>f.elim))
 rw [<- hn] at HQ0
 have HFL:=zh (show (ys.flatMap FlX.cells).length=n*3 by rw [flat_length FlX.cells_length,hn])
 have H1L:=zh (show ∀ u ∈ ys.flatMap FlX.cells,u.oneCell'=true from fun u hu=>by
  obtain ⟨y,hy,hu⟩:=List.mem_flatMap.1 hu
  obtain ⟨a,c,e⟩:=(h4 y hy).len
  unfold FlX.cells at hu
  rw [e] at hu
  simp only [List.mem_cons,List.not_mem_nil,or_false] at hu
  rcases hu with rfl | rfl | rfl <;> rfl)
 obtain ⟨i0,hi0,hz0,hz1,hz2⟩:=info_parts info_fx
 have HI:=zh (And.intro hi0 (And.intro hz0 (And.intro hz1 hz2)))
 obtain ⟨cx,hcx⟩:∃ cx,cx=FlX.cells x:=⟨_,rfl⟩
 have HXC:=zh hcx
 have HC:=zh (show cx.length=3 by rw [hcx];rfl)
 have HCX:=zh (show cx=[strV x.f.path,.bool x.f.dir,.slice xa x.f.b.length xc] by rw [hcx,<- hxe];rfl)
 rw [<- hcx]
 have hT2:=str_list x.f.path
 clear hi0 hz0 hz1 hz2 h1 h3 h4 hx hB ht hn hcx hxe
 go_enter func121,ntmps121
 go_upto_region 1 with fail
 obtain ⟨gb,hgb⟩:∃ g,g=w.heap.size:=⟨_,rfl⟩
 rw [<- hgb]
 generalize hw1:World.alloc w _=w1
 have HG0:=zh (show w1.heap[gb]? = some (.cells cx.toArray 51 (0,0)) by rw [<- hw1,hgb];exact heap_alloc_new w _)
 have HG1:=zh (show w1.heap[gb]? = some (.cells #[strV x.f.path,.bool x.f.dir,.slice xa x.f.b.length xc] 51 (0,0)) by rw [HG0.out,HCX.out])
 have HM1:=zh (show Mod No w w1 by rw [<- hw1];exact (Mod.refl No w).alloc _)
 clear hw1 hgb
 unfold strV at *
 generalize (⟨x.f.path.toArray⟩:ByteArray)=X at *
 go_wp2_with fail
 go_loopw [4] (fun q4 wr=>∃ k:Nat,k<=n/\q4=.int .i64 (k:Int)/\Mod No w1 wr/\∀ i (hi:i < ys.length),i < k->ys[i].f.path < x.f.path) (fun q _=>n - (intOf q).toNat)
 case atStart=>exact ⟨0,by omega,rfl,Mod.refl _ _,fun i _ h=>absurd h (by omega)⟩
 case round =>
  obtain ⟨k,hk,rfl,hm,hlo⟩:=hrel
  have HM:=zh hm
  have HLO:=zh hlo
  have hk0:(0:Int)<=(k:Int):=Int.natCast_nonneg _
  have c5:wr.cell? ⟨gb,0,none⟩=some (.string X):=cell_ofA (hm.keep HG1.out (fun f=>f)) rfl
  have cq:wr.cell? ⟨q,0,none⟩=some (.slice va n vc):=cell_ofA ((HM1.out.trans hm).keep HQ0.out (fun f=>f)) rfl
  clear hm hlo
  by_cases hlt:k < n
  ·have hk1:(k:Int) < (n:Int):=by omega
   have hlt2:k < ys.length:=by rw [<- HNL.out];exact hlt
   obtain ⟨b,o,c,hvs,_⟩:=HV.out.shape (by omega)
   have hva:va=some ⟨b,o,none⟩:=by cases hvs;rfl
   subst hva
   clear hvs
   have HCN:=zh (show w.cell? ⟨b,o+k*3,none⟩=some (strV ys[k].f.path) by
    have h:=Sl.at FlX.cells_length (by have h:=HV.out;rw [HNL.out] at h;exact h) hlt2 0 _ rfl
    rw [Nat.add_zero] at h
    exact h)
   have c0:=(HM1.out.trans HM.out).cell HCN.out (fun f=>f)
   have HNX:=zh (show ys[k].f.path < x.f.path->∀ i (hi:i < ys.length),i < k+1->ys[i].f.path < x.f.path from fun h i hi hik=>by
    rcases Nat.lt_or_ge i k with h3 | h3
    ·exact HLO.out i hi h3
    ·obtain rfl:i=k:=by omega
     exact h)
   have hT1:=str_list ys[k].f.path
   unfold strV at *
   generalize (⟨ys[k].f.path.toArray⟩:ByteArray)=Y at *
   have hkn:decide (k < n)=true:=decide_eq_true hlt
   have hkn2:decide ((k:Int) < (n:Int))=true:=decide_eq_true hk1
   by_cases hlt3:ys[k].f.path < x.f.path
   ·have hbl:Op.bytesLess Y.toList X.toList=true:=by rw [hT1,hT2,bytesLess_dec];exact decide_eq_true hlt3
    clear hT1 hT2
    go_upto_region 2 with fail
    go_quiet (fail)
    generalize hw2:World.drewN wr _=w2
    have HM2:=zh (show Mod No w1 w2 by rw [<- hw2];exact HM.out.drewN _)
    clear hw2 c0 c5 cq
    go_wp2_with fail
    exact ⟨⟨k+1,by omega,rfl,HM2.out,HNX.out hlt3⟩,by show n - ((k:Int)+1).toNat < n - (k:Int).toNat;omega⟩
   ·have hbl:Op.bytesLess Y.toList X.toList=false:=by rw [hT1,hT2,bytesLess_dec];exact decide_eq_false hlt3
    by_cases heq:ys[k].f.path=x.f.path
    ·have hee:(Y.toList == X.toList)=true:=by rw [hT1,hT2,heq];simp
     have HPT:=zh (put_there (x:=x) hlt2 HLO.out heq)
     clear hT1 hT2
     go_upto_region 2 with fail
     go_quiet (fail)
     generalize hw2:World.drewN wr _=w2
     have HM2:=zh (show Mod No w1 w2 by rw [<- hw2];exact HM.out.drewN _)
     have cq:w2.cell? ⟨q,0,none⟩=some (.slice (some ⟨b,o,none⟩) n vc):=cell_ofA ((HM1.out.trans HM2.out).keep HQ0.out (fun f=>f)) rfl
     have c5:w2.cell? ⟨gb,0,none⟩=some (.string X):=cell_ofA (HM2.out.keep HG1.out (fun f=>f)) rfl
     have c0:=(HM1.out.trans HM2.out).cell (HCN.out) (fun f=>f)
     clear hw2
     go_upto_region 4 with fail
     go_quiet (fail)
     generalize hw3:World.drewN w2 _=w3
     have HM3:=zh (show Mod No w1 w3 by rw [<- hw3];exact HM2.out.drewN _)
     clear hw3 c5 cq c0
     obtain ⟨sv,tv0,hsv,-,hsc,-,-⟩:=fx_parts (k:=k) (HV.out.kn (HM1.out.trans HM3.out.drew)) HFL.out hk
     obtain ⟨sv0,tv,-,htv,-,hts,hld⟩:=fx_parts (k:=k+1) (HV.out.kn (HM1.out.trans HM3.out.drew)) HFL.out (by omega)
     have HSV:=zh hsv
     have HTV:=zh htv
     obtain ⟨hi0,hz0,hz1,hz2⟩:=HI.out
     obtain ⟨wD,hwD⟩:∃ y,y=w3.drew:=⟨_,rfl⟩
     rw [<- hwD] at hsc hts
     have HSC:=zh hsc
     have HTS:=zh hts
     have HLD:=zh hld
     have H1D:=zh (show ∀ u ∈ (ys.flatMap FlX.cells).drop ((k+1)*3),u.oneCell'=true from fun u hu=>H1L.out u (List.mem_of_mem_drop hu))
     have HMD:=zh (show Mod No w wD by rw [hwD];exact HM1.out.trans HM3.out.drew)
     have HGD:=zh (show wD.heap[gb]? = some (.cells cx.toArray 51 (0,0)) by rw [hwD];exact HM3.out.drew.keep HG0.out (fun f=>f))
     have HQ:=zh (show ∀ w',Mod No wD w'->w'.cell? ⟨q,0,none⟩=some (.slice (some ⟨b,o,none⟩) n vc) from fun w' h=>cell_ofA ((HMD.out.trans h).keep HQ0.out (fun f=>f)) rfl)
     have HCQ:=zh (show ∀ W,Mod No wD W->∃ cz,W.cell? ⟨q,0,none⟩=some cz/\W.frozen? ⟨q,0,none⟩=false from fun W hW=>⟨_,HQ.out W hW,frozen_of _ ((HMD.out.trans hW).keep HQ0.out (fun f=>f))⟩)
     have HWD:=zh hwD
     have HBD:=zh (Nat.le_refl wD.heap.size)
     obtain ⟨ZS,hZS⟩:∃ ZS,ZS=ys.take k++x :: ys.drop (k+1):=⟨_,rfl⟩
     have HFX:=zh (show (ys.flatMap FlX.cells).take (k*3)++(cx++(ys.flatMap FlX.cells).drop ((k+1)*3))=ZS.flatMap FlX.cells by
      rw [hZS,List.flatMap_append,List.flatMap_cons,flat_takeM (fun y _=>FlX.cells_length y),flat_dropM (fun y _=>FlX.cells_length y),HXC.out])
     have HEND:=zh (show ∀ (W:World) (v':Value),Mod No wD W->W.ownsRow wD.heap.size 51 3 v' (n) (ZS.flatMap FlX.cells)->RTr (W.setCell ⟨q,0,none⟩ v') (RX B q) q (putT (ys.map FlX.f) x.f)/\Mod (fun p=>p=q) w (W.setCell ⟨q,0,none⟩ v') from fun W v' hW hown=>by
      refine put_end (HMD.out.trans hW) HBW.out HMD.out.size HQ0.out hown (by rw [hZS,List.length_append,List.length_cons,List.length_take,List.length_drop,<- HNL.out];omega) (by rw [hZS];exact HPT.out) (fun y hy=>?_)
      rw [hZS] at hy
      rcases List.mem_append.1 hy with hy | hy
      ·exact H4.out y (List.mem_of_mem_take hy)
      ·rcases List.mem_cons.1 hy with rfl | hy
       ·exact HXV.out
       ·exact H4.out y (List.mem_of_mem_drop hy))
     have hS0:=Mod.refl No wD
     generalize hXS:ys.flatMap FlX.cells=XS at *
     clear hsv htv hsc hts hld hwD hXS hZS
     have hk5:IntKind.i64.wrap ((k:Int)+1)=((k+1:Nat):Int):=by rw [IntKind.wrap_i64];omega
     go_upto_region 5 with fail
     refine wp_region_T (fun w'=>Mod No wD w') 21 (by kernel_rfl) ?_
     rw [<- HWD.out]
     refine wpAnyT_take 0 (some 47) ?_ rfl rfl (by kernel_rfl) (fun _ _ _ h=>h) hS0 (Or.inl ⟨by rfl,?_⟩) ?_
     rotate_left
     ·(intro w' hSw;go_simp;try with_reducible rfl)
     simp only [Act.put,yB,yC,yD]
     refine wpAnyT_take 1 (some 48) ?_ rfl rfl (by kernel_rfl) (fun _ _ _ h=>h) hS0 (Or.inl ⟨by rfl,?_⟩) ?_
     rotate_left
     ·(intro w' hSw;go_simp;try with_reducible rfl)
     simp only [Act.put,yB,yC,yD]
     refine wpAnyT_take 2 (some 49) ?_ rfl rfl (by kernel_rfl) (fun _ _ _ h=>h) hS0 (Or.inl ⟨by rfl,?_⟩) ?_
     rotate_left
     ·(intro w' hSw;go_simp;try with_reducible rfl)
     simp only [Act.put,yB,yC,yD]
     refine wpAnyT_take 3 (some 50) ?_ rfl rfl (by kernel_rfl) (fun _ _ _ h=>h) hS0 (Or.inl ⟨by rfl,?_⟩) ?_
     rotate_left
     ·(intro w' hSw;go_simp;try with_reducible rfl)
     simp only [Act.put,yB,yC,yD]
     refine wpAnyT_take 4 (some 51) (.slice (some ⟨b,o,none⟩) n vc) rfl rfl (by kernel_rfl) (fun _ _ _ h=>h) hS0 (Or.inl ⟨by rfl,?_⟩) ?_
     ·(intro w' hSw;have q0:=HQ.out w' hSw;go_simp;try with_reducible rfl)
     simp only [Act.put,yB,yC,yD]
     refine wpAnyT_take 5 (some 52) ?_ rfl rfl (by kernel_rfl) (fun _ _ _ h=>h) hS0 (Or.inl ⟨by rfl,?_⟩) ?_
     rotate_left
     ·(intro w' hSw;go_simp;try with_reducible rfl)
     simp only [Act.put,yB,yC,yD]
     refine wpAnyT_take 6 (some 53) ?_ rfl rfl (by kernel_rfl) (fun _ _ _ h=>h) hS0 (Or.inl ⟨by rfl,?_⟩) ?_
     rotate_left
     ·(intro w' hSw;go_simp;try with_reducible rfl)
     simp only [Act.put,yB,yC,yD]
     refine wpAnyT_take 7 (some 54) sv rfl rfl (by kernel_rfl) (fun _ _ _ h=>h) hS0 (Or.inl ⟨by rfl,?_⟩) ?_
     ·(intro w' hSw;apply yslice3 (HSV.out w') (.tmp 51) (.tmp 52) (.tmp 53) <;> rfl)
     simp only [Act.put,yB,yC,yD]
     refine wpAnyT_take 8 (some 55) (.agg cx.toArray) rfl rfl (by kernel_rfl) (fun _ _ _ h=>h) hS0 (Or.inl ⟨by rfl,?_⟩) ?_
     ·(intro w' hSw;apply yloadv (by exact load_fx HC.out (hSw.keep HGD.out (fun f=>f))) (.tmp 3) <;> rfl)
     simp only [Act.put,yB,yC,yD]
     refine wpAnyT_take 11 (some 58) ?_ rfl rfl (by kernel_rfl) (fun _ _ _ h=>h) hS0 (Or.inl ⟨by rfl,?_⟩) ?_
     rotate_left
     ·(intro w' hSw;go_simp;try with_reducible rfl)
     simp only [Act.put,yB,yC,yD]
     refine wpAnyT_take 12 (some 59) ?_ rfl rfl (by kernel_rfl) (fun _ _ _ h=>h) hS0 (Or.inl ⟨by rfl,?_⟩) ?_
     rotate_left
     ·(intro w' hSw;go_simp;try with_reducible rfl)
     simp only [Act.put,yB,yC,yD]
     refine wpAnyT_take 13 (some 60) ?_ rfl rfl (by kernel_rfl) (fun _ _ _ h=>h) hS0 (Or.inl ⟨by rfl,?_⟩) ?_
     rotate_left
     ·(intro w' hSw;go_simp;try with_reducible rfl)
     simp only [Act.put,yB,yC,yD]
     refine wpAnyT_take 14 (some 61) (.slice (some ⟨b,o,none⟩) n vc) rfl rfl (by kernel_rfl) (fun _ _ _ h=>h) hS0 (Or.inl ⟨by rfl,?_⟩) ?_
     ·(intro w' hSw;have q0:=HQ.out w' hSw;go_simp;try with_reducible rfl)
     simp only [Act.put,yB,yC,yD]
     refine wpAnyT_take 15 (some 62) ?_ rfl rfl (by kernel_rfl) (fun _ _ _ h=>h) hS0 (Or.inl ⟨by rfl,?_⟩) ?_
     rotate_left
     ·(intro w' hSw;go_simp;try with_reducible rfl)
     simp only [Act.put,yB,yC,yD]
     refine wpAnyT_take 16 (some 63) (.int .i64 ((k+1:Nat):Int)) rfl rfl (by kernel_rfl) (fun _ _ _ h=>h) hS0 (Or.inl ⟨by rfl,?_⟩) ?_
     ·(intro w' hSw;go_simp;try with_reducible rfl)
     simp only [Act.put,yB,yC,yD]
     refine wpAnyT_take 17 (some 64) tv rfl rfl (by kernel_rfl) (fun _ _ _ h=>h) hS0 (Or.inl ⟨by rfl,?_⟩) ?_
     ·(intro w' hSw;apply yslice1 (HTV.out w') (.tmp 61) (.tmp 63) <;> rfl)
     simp only [Act.put,yB,yC,yD]
     refine wpAnyT_one 9 rfl (by kernel_rfl) rfl ?_
     intro K hK
     obtain ⟨ga,hga⟩:∃ ga,ga=wD.heap.size:=⟨_,rfl⟩
     obtain ⟨wD_9,hwD_9⟩:∃ y,y=wD.alloc (.cells cx.toArray 51):=⟨_,rfl⟩
     have HGA:=zh (show wD_9.heap[ga]? = some (.cells cx.toArray 51 (0,0)) by rw [hwD_9,hga];exact heap_alloc_new _ _)
     have hmwD_9:Mod No wD wD_9:=by rw [hwD_9];exact (Mod.refl No _).alloc _
     have HB6:=zh (show wD.heap.size<=wD_9.heap.size from hmwD_9.size)
     refine wp_value (v:=.slice (some ⟨ga,0,none⟩) 1 1) (w':=wD_9) (by rw [hga,hwD_9];apply fx_new HC.out (.tmp 55) <;> rfl) ?_
     clear hwD_9 hga
     show K (Act.put _ (some 56) _) _
     have hS1:=hS0.trans hmwD_9
     refine hK.out _ _ (fun _=>hS1) ?_
     clear hK K
     refine wpAnyT_one 10 rfl (by kernel_rfl) rfl ?_
     intro K hK
     refine wp_app_full wD_9 (.tmp 54) (.tmp 56) 22 (by rfl) wD.heap.size 51 i0 _ 3 48 underlying22 hi0 hz0 hz1 hz2 rfl sv k (XS.take (k*3)) (by rfl) (by
      rcases HSC.out with h | ⟨a0,h1,h2,h3⟩
      ·exact .inl h
      ·exact .inr ⟨a0,h1,h2,fun j u e=>hS1.cell (h3 j u e) (fun f=>f)⟩) ⟨ga,0,none⟩ 1 1 cx (by rfl) (by omega) (by rw [HC.out]) (fun j u e=>by rw [Addr.add_lit];exact cell_ofA HGA.out (by simpa using e)) (by unfold maxLen;omega) (by omega) HB6.out ?_
     intro v6 w6 hown6 hm6
     have HO6:=zh hown6
     obtain ⟨g6,c6,hv6,hg6a⟩:=own_shape hown6 (by omega)
     subst hv6
     have HB7:=zh (Nat.le_trans HB6.out hm6.size)
     clear hown6
     show K (Act.put _ (some 57) _) _
     have hS2:=hS1.trans hm6
     refine hK.out _ _ (fun _=>hS2) ?_
     clear hK K
     refine wpAnyT_one 18 rfl (by kernel_rfl) rfl ?_
     intro K hK
     refine wp_app_sl w6 (.tmp 57) (.tmp 64) 22 (by rfl) wD.heap.size 51 i0 _ 3 48 underlying22 hi0 hz0 hz1 hz2 rfl (by decide) _ (k+1) (XS.take (k*3)++cx) (by rfl) HO6.out No 51 tv (n - (k+1)) (XS.drop ((k+1)*3)) (by rfl) (HTS.out.kn hS2) HLD.out H1D.out (by unfold maxLen;omega) (by omega) HB7.out ?_
     intro v7 w7 hown7 hg7 _
     have HO7:=zh hown7
     have hm7:Mod No wD w7:=hS2.then (Mod.of_grown (S:=fun q=>q=g6) hg7 (fun q e _=>by cases e;rfl)) (fun q hq e=>by have e:q=g6:=e;omega)
     clear hown7 hg7
     show K (Act.put _ (some 65) _) _
     have hS3:=hm7
     refine hK.out _ _ (fun _=>hS3) ?_
     clear hK K
     refine wpAnyT_takeC [20,21] 19 (some 66) ?_ rfl rfl (by kernel_rfl) (fun _ _ _ h=>h) hS3 (Or.inl ⟨by rfl,?_⟩) ?_
     rotate_left
     ·(intro w' hSw;go_simp;try with_reducible rfl)
     simp only [Act.put,yB,yC,yD]
     refine wpAnyT_take 20 (some 67) ?_ rfl rfl (by kernel_rfl) (fun _ _ _ h=>h) hS3 (Or.inl ⟨by rfl,?_⟩) ?_
     rotate_left
     ·(intro w' hSw;go_simp;try with_reducible rfl)
     simp only [Act.put,yB,yC,yD]
     refine wpAnyT_one 21 rfl (by kernel_rfl) rfl ?_
     intro K hK
     have HO8:=zh (show w7.ownsRow wD.heap.size 51 3 v7 n (ZS.flatMap FlX.cells) by
      have h9:=HO7.out
      rw [List.append_assoc,HFX.out,show k+1+(n - (k+1))=n by omega] at h9
      exact h9)
     obtain ⟨v7a,v7c,hv7⟩:=own_len HO8.out
     subst hv7
     have HX:=zh (HEND.out w7 _ hS3 HO8.out)
     obtain ⟨cq,hcq,hfq⟩:=HCQ.out w7 hS3
     go_simp
     show K _ _
     refine hK.out _ _ (fun h=>absurd rfl h) ?_
     clear hK K
     refine wpAnyT_done (by kernel_rfl) ?_ _
     clear hS0 hS1 hS2 hS3
     go_wp2_with fail
     first | refine bodyPost_ret (results_none rfl _ _ _) rfl ?_ | refine bodyPost_end (results_none rfl _ _ _) rfl ?_
     exact fin hR ⟨rfl,HX.out.1,HX.out.2⟩
    ·have hee:(Y.toList == X.toList)=false:=by rw [hT1,hT2];simpa using heq
     have HPT:=zh (put_new (x:=x) (k:=k) (by rw [<- HNL.out];exact hk) HLO.out (fun _=>⟨hlt3,heq⟩))
     clear hT1 hT2
     go_upto_region 2 with fail
     go_quiet (fail)
     generalize hw2:World.drewN wr _=w2
     have HM2:=zh (show Mod No w1 w2 by rw [<- hw2];exact HM.out.drewN _)
     have cq:w2.cell? ⟨q,0,none⟩=some (.slice (some ⟨b,o,none⟩) n vc):=cell_ofA ((HM1.out.trans HM2.out).keep HQ0.out (fun f=>f)) rfl
     have c5:w2.cell? ⟨gb,0,none⟩=some (.string X):=cell_ofA (HM2.out.keep HG1.out (fun f=>f)) rfl
     have c0:=(HM1.out.trans HM2.out).cell (HCN.out) (fun f=>f)
     clear hw2
     go_upto_region 4 with fail
     go_quiet (fail)
     generalize hw3:World.drewN w2 _=w3
     have HM3:=zh (show Mod No w1 w3 by rw [<- hw3];exact HM2.out.drewN _)
     clear hw3 c5 cq c0
     obtain ⟨sv,tv0,hsv,-,hsc,-,-⟩:=fx_parts (k:=k) (HV.out.kn (HM1.out.trans HM3.out.drew)) HFL.out hk
     obtain ⟨sv0,tv,-,htv,-,hts,hld⟩:=fx_parts (k:=k) (HV.out.kn (HM1.out.trans HM3.out.drew)) HFL.out (by omega)
     have HSV:=zh hsv
     have HTV:=zh htv
     obtain ⟨hi0,hz0,hz1,hz2⟩:=HI.out
     obtain ⟨wD,hwD⟩:∃ y,y=w3.drew:=⟨_,rfl⟩
     rw [<- hwD] at hsc hts
     have HSC:=zh hsc
     have HTS:=zh hts
     have HLD:=zh hld
     have H1D:=zh (show ∀ u ∈ (ys.flatMap FlX.cells).drop (k*3),u.oneCell'=true from fun u hu=>H1L.out u (List.mem_of_mem_drop hu))
     have HMD:=zh (show Mod No w wD by rw [hwD];exact HM1.out.trans HM3.out.drew)
     have HGD:=zh (show wD.heap[gb]? = some (.cells cx.toArray 51 (0,0)) by rw [hwD];exact HM3.out.drew.keep HG0.out (fun f=>f))
     have HQ:=zh (show ∀ w',Mod No wD w'->w'.cell? ⟨q,0,none⟩=some (.slice (some ⟨b,o,none⟩) n vc) from fun w' h=>cell_ofA ((HMD.out.trans h).keep HQ0.out (fun f=>f)) rfl)
     have HCQ:=zh (show ∀ W,Mod No wD W->∃ cz,W.cell? ⟨q,0,none⟩=some cz/\W.frozen? ⟨q,0,none⟩=false from fun W hW=>⟨_,HQ.out W hW,frozen_of _ ((HMD.out.trans hW).keep HQ0.out (fun f=>f))⟩)
     have HWD:=zh hwD
     have HBD:=zh (Nat.le_refl wD.heap.size)
     obtain ⟨ZS,hZS⟩:∃ ZS,ZS=ys.take k++x :: ys.drop k:=⟨_,rfl⟩
     have HFX:=zh (show (ys.flatMap FlX.cells).take (k*3)++(cx++(ys.flatMap FlX.cells).drop (k*3))=ZS.flatMap FlX.cells by
      rw [hZS,List.flatMap_append,List.flatMap_cons,flat_takeM (fun y _=>FlX.cells_length y),flat_dropM (fun y _=>FlX.cells_length y),HXC.out])
     have HEND:=zh (show ∀ (W:World) (v':Value),Mod No wD W->W.ownsRow wD.heap.size 51 3 v' (n+1) (ZS.flatMap FlX.cells)->RTr (W.setCell ⟨q,0,none⟩ v') (RX B q) q (putT (ys.map FlX.f) x.f)/\Mod (fun p=>p=q) w (W.setCell ⟨q,0,none⟩ v') from fun W v' hW hown=>by
      refine put_end (HMD.out.trans hW) HBW.out HMD.out.size HQ0.out hown (by rw [hZS,List.length_append,List.length_cons,List.length_take,List.length_drop,<- HNL.out];omega) (by rw [hZS];exact HPT.out) (fun y hy=>?_)
      rw [hZS] at hy
      rcases List.mem_append.1 hy with hy | hy
      ·exact H4.out y (List.mem_of_mem_take hy)
      ·rcases List.mem_cons.1 hy with rfl | hy
       ·exact HXV.out
       ·exact H4.out y (List.mem_of_mem_drop hy))
     have hS0:=Mod.refl No wD
     generalize hXS:ys.flatMap FlX.cells=XS at *
     clear hsv htv hsc hts hld hwD hXS hZS
     go_upto_region 6 with fail
     refine wp_region_T (fun w'=>Mod No wD w') 20 (by kernel_rfl) ?_
     rw [<- HWD.out]
     refine wpAnyT_take 0 (some 68) ?_ rfl rfl (by kernel_rfl) (fun _ _ _ h=>h) hS0 (Or.inl ⟨by rfl,?_⟩) ?_
     rotate_left
     ·(intro w' hSw;go_simp;try with_reducible rfl)
     simp only [Act.put,yB,yC,yD]
     refine wpAnyT_take 1 (some 69) ?_ rfl rfl (by kernel_rfl) (fun _ _ _ h=>h) hS0 (Or.inl ⟨by rfl,?_⟩) ?_
     rotate_left
     ·(intro w' hSw;go_simp;try with_reducible rfl)
     simp only [Act.put,yB,yC,yD]
     refine wpAnyT_take 2 (some 70) ?_ rfl rfl (by kernel_rfl) (fun _ _ _ h=>h) hS0 (Or.inl ⟨by rfl,?_⟩) ?_
     rotate_left
     ·(intro w' hSw;go_simp;try with_reducible rfl)
     simp only [Act.put,yB,yC,yD]
     refine wpAnyT_take 3 (some 71) ?_ rfl rfl (by kernel_rfl) (fun _ _ _ h=>h) hS0 (Or.inl ⟨by rfl,?_⟩) ?_
     rotate_left
     ·(intro w' hSw;go_simp;try with_reducible rfl)
     simp only [Act.put,yB,yC,yD]
     refine wpAnyT_take 4 (some 72) (.slice (some ⟨b,o,none⟩) n vc) rfl rfl (by kernel_rfl) (fun _ _ _ h=>h) hS0 (Or.inl ⟨by rfl,?_⟩) ?_
     ·(intro w' hSw;have q0:=HQ.out w' hSw;go_simp;try with_reducible rfl)
     simp only [Act.put,yB,yC,yD]
     refine wpAnyT_take 5 (some 73) ?_ rfl rfl (by kernel_rfl) (fun _ _ _ h=>h) hS0 (Or.inl ⟨by rfl,?_⟩) ?_
     rotate_left
     ·(intro w' hSw;go_simp;try with_reducible rfl)
     simp only [Act.put,yB,yC,yD]
     refine wpAnyT_take 6 (some 74) ?_ rfl rfl (by kernel_rfl) (fun _ _ _ h=>h) hS0 (Or.inl ⟨by rfl,?_⟩) ?_
     rotate_left
     ·(intro w' hSw;go_simp;try with_reducible rfl)
     simp only [Act.put,yB,yC,yD]
     refine wpAnyT_take 7 (some 75) sv rfl rfl (by kernel_rfl) (fun _ _ _ h=>h) hS0 (Or.inl ⟨by rfl,?_⟩) ?_
     ·(intro w' hSw;apply yslice3 (HSV.out w') (.tmp 72) (.tmp 73) (.tmp 74) <;> rfl)
     simp only [Act.put,yB,yC,yD]
     refine wpAnyT_take 8 (some 76) (.agg cx.toArray) rfl rfl (by kernel_rfl) (fun _ _ _ h=>h) hS0 (Or.inl ⟨by rfl,?_⟩) ?_
     ·(intro w' hSw;apply yloadv (by exact load_fx HC.out (hSw.keep HGD.out (fun f=>f))) (.tmp 3) <;> rfl)
     simp only [Act.put,yB,yC,yD]
     refine wpAnyT_take 10 (some 78) ?_ rfl rfl (by kernel_rfl) (fun _ _ _ h=>h) hS0 (Or.inl ⟨by rfl,?_⟩) ?_
     rotate_left
     ·(intro w' hSw;go_simp;try with_reducible rfl)
     simp only [Act.put,yB,yC,yD]
     refine wpAnyT_take 11 (some 79) ?_ rfl rfl (by kernel_rfl) (fun _ _ _ h=>h) hS0 (Or.inl ⟨by rfl,?_⟩) ?_
     rotate_left
     ·(intro w' hSw;go_simp;try with_reducible rfl)
     simp only [Act.put,yB,yC,yD]
     refine wpAnyT_take 12 (some 80) ?_ rfl rfl (by kernel_rfl) (fun _ _ _ h=>h) hS0 (Or.inl ⟨by rfl,?_⟩) ?_
     rotate_left
     ·(intro w' hSw;go_simp;try with_reducible rfl)
     simp only [Act.put,yB,yC,yD]
     refine wpAnyT_take 13 (some 81) (.slice (some ⟨b,o,none⟩) n vc) rfl rfl (by kernel_rfl) (fun _ _ _ h=>h) hS0 (Or.inl ⟨by rfl,?_⟩) ?_
     ·(intro w' hSw;have q0:=HQ.out w' hSw;go_simp;try with_reducible rfl)
     simp only [Act.put,yB,yC,yD]
     refine wpAnyT_take 14 (some 82) ?_ rfl rfl (by kernel_rfl) (fun _ _ _ h=>h) hS0 (Or.inl ⟨by rfl,?_⟩) ?_
     rotate_left
     ·(intro w' hSw;go_simp;try with_reducible rfl)
     simp only [Act.put,yB,yC,yD]
     refine wpAnyT_take 15 (some 83) tv rfl rfl (by kernel_rfl) (fun _ _ _ h=>h) hS0 (Or.inl ⟨by rfl,?_⟩) ?_
     ·(intro w' hSw;apply yslice1 (HTV.out w') (.tmp 81) (.tmp 82) <;> rfl)
     simp only [Act.put,yB,yC,yD]
     refine wpAnyT_one 9 rfl (by kernel_rfl) rfl ?_
     intro K hK
     obtain ⟨ga,hga⟩:∃ ga,ga=wD.heap.size:=⟨_,rfl⟩
     obtain ⟨wD_9,hwD_9⟩:∃ y,y=wD.alloc (.cells cx.toArray 51):=⟨_,rfl⟩
     have HGA:=zh (show wD_9.heap[ga]? = some (.cells cx.toArray 51 (0,0)) by rw [hwD_9,hga];exact heap_alloc_new _ _)
     have hmwD_9:Mod No wD wD_9:=by rw [hwD_9];exact (Mod.refl No _).alloc _
     have HGL:=zh (show wD.heap.size<=ga by omega)
     refine wp_value (v:=.slice (some ⟨ga,0,none⟩) 1 1) (w':=wD_9) (by rw [hga,hwD_9];apply fx_new HC.out (.tmp 76) <;> rfl) ?_
     clear hwD_9 hga
     show K (Act.put _ (some 77) _) _
     have hS1:=hS0.trans hmwD_9
     refine hK.out _ _ (fun _=>hS1) ?_
     clear hK K
     refine wpAnyT_one 16 rfl (by kernel_rfl) rfl ?_
     intro K hK
     refine wp_app_sl wD_9 (.tmp 77) (.tmp 83) 22 (by rfl) ga 51 i0 _ 3 48 underlying22 hi0 hz0 hz1 hz2 rfl (by decide) (.slice (some ⟨ga,0,none⟩) 1 1) 1 cx (by rfl) ⟨by rw [HC.out],.inr ⟨ga,1,_,rfl,Nat.le_refl _,HGA.out,Nat.le_refl _,by unfold maxLen;omega,by simp [HC.out],by rw [List.toList_toArray,List.take_of_length_le (by rw [HC.out];decide)]⟩⟩ No 51 tv (n - k) (XS.drop (k*3)) (by rfl) (HTS.out.kn hS1) HLD.out H1D.out (by unfold maxLen;omega) (by omega) (Nat.le_of_lt (lt_of_heap HGA.out)) ?_
     intro v6 w6 hown hg6 _
     obtain ⟨g6,c6,rfl,hg6a⟩:=own_shape hown (by omega)
     have HO6:=zh hown
     have hm6:Mod No wD w6:=hS1.then (Mod.of_grown (S:=fun q=>q=ga) hg6 (fun q e _=>by cases e;rfl)) (fun q hq e=>by have e:q=ga:=e;have h1:=HGL.out;omega)
     have HB6:=zh (show wD.heap.size<=w6.heap.size from Nat.le_trans HBD.out hm6.size)
     clear hown hg6
     show K (Act.put _ (some 84) _) _
     have hS2:=hm6
     refine hK.out _ _ (fun _=>hS2) ?_
     clear hK K
     refine wpAnyT_one 17 rfl (by kernel_rfl) rfl ?_
     intro K hK
     refine wp_app_full w6 (.tmp 75) (.tmp 84) 22 (by rfl) wD.heap.size 51 i0 _ 3 48 underlying22 hi0 hz0 hz1 hz2 rfl sv k (XS.take (k*3)) (by rfl) (by
      rcases HSC.out with h | ⟨a0,h1,h2,h3⟩
      ·exact .inl h
      ·exact .inr ⟨a0,h1,h2,fun j u e=>hS2.cell (h3 j u e) (fun f=>f)⟩) ⟨g6,0,none⟩ (1+(n - k)) c6 (cx++XS.drop (k*3)) (by rfl) (by omega) HO6.out.1 (fun j u e=>HO6.out.cells (g:=g6) rfl j u e) (by unfold maxLen;omega) (by omega) HB6.out ?_
     intro v7 w7 hown7 hm7
     have HO7:=zh hown7
     clear hown7
     show K (Act.put _ (some 85) _) _
     have hS3:=hS2.trans hm7
     refine hK.out _ _ (fun _=>hS3) ?_
     clear hK K
     refine wpAnyT_takeC [19,20] 18 (some 86) ?_ rfl rfl (by kernel_rfl) (fun _ _ _ h=>h) hS3 (Or.inl ⟨by rfl,?_⟩) ?_
     rotate_left
     ·(intro w' hSw;go_simp;try with_reducible rfl)
     simp only [Act.put,yB,yC,yD]
     refine wpAnyT_take 19 (some 87) ?_ rfl rfl (by kernel_rfl) (fun _ _ _ h=>h) hS3 (Or.inl ⟨by rfl,?_⟩) ?_
     rotate_left
     ·(intro w' hSw;go_simp;try with_reducible rfl)
     simp only [Act.put,yB,yC,yD]
     refine wpAnyT_one 20 rfl (by kernel_rfl) rfl ?_
     intro K hK
     have HO8:=zh (show w7.ownsRow wD.heap.size 51 3 v7 (n+1) (ZS.flatMap FlX.cells) by
      have h9:=HO7.out
      rw [HFX.out,show k+(1+(n - k))=n+1 by omega] at h9
      exact h9)
     obtain ⟨v7a,v7c,hv7⟩:=own_len HO8.out
     subst hv7
     have HX:=zh (HEND.out w7 _ hS3 HO8.out)
     obtain ⟨cq,hcq,hfq⟩:=HCQ.out w7 hS3
     go_simp
     show K _ _
     refine hK.out _ _ (fun h=>absurd rfl h) ?_
     clear hK K
     refine wpAnyT_done (by kernel_rfl) ?_ _
     clear hS0 hS1 hS2 hS3
     go_wp2_with fail
     first | refine bodyPost_ret (results_none rfl _ _ _) rfl ?_ | refine bodyPost_end (results_none rfl _ _ _) rfl ?_
     exact fin hR ⟨rfl,HX.out.1,HX.out.2⟩
  ·have hkn:decide (k < n)=false:=decide_eq_false hlt
   have hkn2:decide ((k:Int) < (n:Int))=false:=decide_eq_false (by omega)
   have HPT:=zh (put_new (x:=x) (k:=k) (by rw [<- HNL.out];exact hk) HLO.out (fun h=>absurd h (by rw [<- HNL.out];exact hlt)))
   clear hT2
   go_upto_region 2 with fail
   go_quiet (fail)
   generalize hw2:World.drewN wr _=w2
   have HM2:=zh (show Mod No w1 w2 by rw [<- hw2];exact HM.out.drewN _)
   have cq:w2.cell? ⟨q,0,none⟩=some (.slice va n vc):=cell_ofA ((HM1.out.trans HM2.out).keep HQ0.out (fun f=>f)) rfl
   have c5:w2.cell? ⟨gb,0,none⟩=some (.string X):=cell_ofA (HM2.out.keep HG1.out (fun f=>f)) rfl
   clear hw2
   go_upto_region 4 with fail
   go_quiet (fail)
   generalize hw3:World.drewN w2 _=w3
   have HM3:=zh (show Mod No w1 w3 by rw [<- hw3];exact HM2.out.drewN _)
   clear hw3 c5 cq
   obtain ⟨sv,tv0,hsv,-,hsc,-,-⟩:=fx_parts (k:=k) (HV.out.kn (HM1.out.trans HM3.out.drew)) HFL.out hk
   obtain ⟨sv0,tv,-,htv,-,hts,hld⟩:=fx_parts (k:=k) (HV.out.kn (HM1.out.trans HM3.out.drew)) HFL.out (by omega)
   have HSV:=zh hsv
   have HTV:=zh htv
   obtain ⟨hi0,hz0,hz1,hz2⟩:=HI.out
   obtain ⟨wD,hwD⟩:∃ y,y=w3.drew:=⟨_,rfl⟩
   rw [<- hwD] at hsc hts
   have HSC:=zh hsc
   have HTS:=zh hts
   have HLD:=zh hld
   have H1D:=zh (show ∀ u ∈ (ys.flatMap FlX.cells).drop (k*3),u.oneCell'=true from fun u hu=>H1L.out u (List.mem_of_mem_drop hu))
   have HMD:=zh (show Mod No w wD by rw [hwD];exact HM1.out.trans HM3.out.drew)
   have HGD:=zh (show wD.heap[gb]? = some (.cells cx.toArray 51 (0,0)) by rw [hwD];exact HM3.out.drew.keep HG0.out (fun f=>f))
   have HQ:=zh (show ∀ w',Mod No wD w'->w'.cell? ⟨q,0,none⟩=some (.slice va n vc) from fun w' h=>cell_ofA ((HMD.out.trans h).keep HQ0.out (fun f=>f)) rfl)
   have HCQ:=zh (show ∀ W,Mod No wD W->∃ cz,W.cell? ⟨q,0,none⟩=some cz/\W.frozen? ⟨q,0,none⟩=false from fun W hW=>⟨_,HQ.out W hW,frozen_of _ ((HMD.out.trans hW).keep HQ0.out (fun f=>f))⟩)
   have HWD:=zh hwD
   have HBD:=zh (Nat.le_refl wD.heap.size)
   obtain ⟨ZS,hZS⟩:∃ ZS,ZS=ys.take k++x :: ys.drop k:=⟨_,rfl⟩
   have HFX:=zh (show (ys.flatMap FlX.cells).take (k*3)++(cx++(ys.flatMap FlX.cells).drop (k*3))=ZS.flatMap FlX.cells by
    rw [hZS,List.flatMap_append,List.flatMap_cons,flat_takeM (fun y _=>FlX.cells_length y),flat_dropM (fun y _=>FlX.cells_length y),HXC.out])
   have HEND:=zh (show ∀ (W:World) (v':Value),Mod No wD W->W.ownsRow wD.heap.size 51 3 v' (n+1) (ZS.flatMap FlX.cells)->RTr (W.setCell ⟨q,0,none⟩ v') (RX B q) q (putT (ys.map FlX.f) x.f)/\Mod (fun p=>p=q) w (W.setCell ⟨q,0,none⟩ v') from fun W v' hW hown=>by
    refine put_end (HMD.out.trans hW) HBW.out HMD.out.size HQ0.out hown (by rw [hZS,List.length_append,List.length_cons,List.length_take,List.length_drop,<- HNL.out];omega) (by rw [hZS];exact HPT.out) (fun y hy=>?_)
    rw [hZS] at hy
    rcases List.mem_append.1 hy with hy | hy
    ·exact H4.out y (List.mem_of_mem_take hy)
    ·rcases List.mem_cons.1 hy with rfl | hy
     ·exact HXV.out
     ·exact H4.out y (List.mem_of_mem_drop hy))
   have hS0:=Mod.refl No wD
   generalize hXS:ys.flatMap FlX.cells=XS at *
   clear hsv htv hsc hts hld hwD hXS hZS
   go_upto_region 6 with fail
   refine wp_region_T (fun w'=>Mod No wD w') 20 (by kernel_rfl) ?_
   rw [<- HWD.out]
   refine wpAnyT_take 0 (some 68) ?_ rfl rfl (by kernel_rfl) (fun _ _ _ h=>h) hS0 (Or.inl ⟨by rfl,?_⟩) ?_
   rotate_left
   ·(intro w' hSw;go_simp;try with_reducible rfl)
   simp only [Act.put,yB,yC,yD]
   refine wpAnyT_take 1 (some 69) ?_ rfl rfl (by kernel_rfl) (fun _ _ _ h=>h) hS0 (Or.inl ⟨by rfl,?_⟩) ?_
   rotate_left
   ·(intro w' hSw;go_simp;try with_reducible rfl)
   simp only [Act.put,yB,yC,yD]
   refine wpAnyT_take 2 (some 70) ?_ rfl rfl (by kernel_rfl) (fun _ _ _ h=>h) hS0 (Or.inl ⟨by rfl,?_⟩) ?_
   rotate_left
   ·(intro w' hSw;go_simp;try with_reducible rfl)
   simp only [Act.put,yB,yC,yD]
   refine wpAnyT_take 3 (some 71) ?_ rfl rfl (by kernel_rfl) (fun _ _ _ h=>h) hS0 (Or.inl ⟨by rfl,?_⟩) ?_
   rotate_left
   ·(intro w' hSw;go_simp;try with_reducible rfl)
   simp only [Act.put,yB,yC,yD]
   refine wpAnyT_take 4 (some 72) (.slice va n vc) rfl rfl (by kernel_rfl) (fun _ _ _ h=>h) hS0 (Or.inl ⟨by rfl,?_⟩) ?_
   ·(intro w' hSw;have q0:=HQ.out w' hSw;go_simp;try with_reducible rfl)
   simp only [Act.put,yB,yC,yD]
   refine wpAnyT_take 5 (some 73) ?_ rfl rfl (by kernel_rfl) (fun _ _ _ h=>h) hS0 (Or.inl ⟨by rfl,?_⟩) ?_
   rotate_left
   ·(intro w' hSw;go_simp;try with_reducible rfl)
   simp only [Act.put,yB,yC,yD]
   refine wpAnyT_take 6 (some 74) ?_ rfl rfl (by kernel_rfl) (fun _ _ _ h=>h) hS0 (Or.inl ⟨by rfl,?_⟩) ?_
   rotate_left
   ·(intro w' hSw;go_simp;try with_reducible rfl)
   simp only [Act.put,yB,yC,yD]
   refine wpAnyT_take 7 (some 75) sv rfl rfl (by kernel_rfl) (fun _ _ _ h=>h) hS0 (Or.inl ⟨by rfl,?_⟩) ?_
   ·(intro w' hSw;apply yslice3 (HSV.out w') (.tmp 72) (.tmp 73) (.tmp 74) <;> rfl)
   simp only [Act.put,yB,yC,yD]
   refine wpAnyT_take 8 (some 76) (.agg cx.toArray) rfl rfl (by kernel_rfl) (fun _ _ _ h=>h) hS0 (Or.inl ⟨by rfl,?_⟩) ?_
   ·(intro w' hSw;apply yloadv (by exact load_fx HC.out (hSw.keep HGD.out (fun f=>f))) (.tmp 3) <;> rfl)
   simp only [Act.put,yB,yC,yD]
   refine wpAnyT_take 10 (some 78) ?_ rfl rfl (by kernel_rfl) (fun _ _ _ h=>h) hS0 (Or.inl ⟨by rfl,?_⟩) ?_
   rotate_left
   ·(intro w' hSw;go_simp;try with_reducible rfl)
   simp only [Act.put,yB,yC,yD]
   refine wpAnyT_take 11 (some 79) ?_ rfl rfl (by kernel_rfl) (fun _ _ _ h=>h) hS0 (Or.inl ⟨by rfl,?_⟩) ?_
   rotate_left
   ·(intro w' hSw;go_simp;try with_reducible rfl)
   simp only [Act.put,yB,yC,yD]
   refine wpAnyT_take 12 (some 80) ?_ rfl rfl (by kernel_rfl) (fun _ _ _ h=>h) hS0 (Or.inl ⟨by rfl,?_⟩) ?_
   rotate_left
   ·(intro w' hSw;go_simp;try with_reducible rfl)
   simp only [Act.put,yB,yC,yD]
   refine wpAnyT_take 13 (some 81) (.slice va n vc) rfl rfl (by kernel_rfl) (fun _ _ _ h=>h) hS0 (Or.inl ⟨by rfl,?_⟩) ?_
   ·(intro w' hSw;have q0:=HQ.out w' hSw;go_simp;try with_reducible rfl)
   simp only [Act.put,yB,yC,yD]
   refine wpAnyT_take 14 (some 82) ?_ rfl rfl (by kernel_rfl) (fun _ _ _ h=>h) hS0 (Or.inl ⟨by rfl,?_⟩) ?_
   rotate_left
   ·(intro w' hSw;go_simp;try with_reducible rfl)
   simp only [Act.put,yB,yC,yD]
   refine wpAnyT_take 15 (some 83) tv rfl rfl (by kernel_rfl) (fun _ _ _ h=>h) hS0 (Or.inl ⟨by rfl,?_⟩) ?_
   ·(intro w' hSw;apply yslice1 (HTV.out w') (.tmp 81) (.tmp 82) <;> rfl)
   simp only [Act.put,yB,yC,yD]
   refine wpAnyT_one 9 rfl (by kernel_rfl) rfl ?_
   intro K hK
   obtain ⟨ga,hga⟩:∃ ga,ga=wD.heap.size:=⟨_,rfl⟩
   obtain ⟨wD_9,hwD_9⟩:∃ y,y=wD.alloc (.cells cx.toArray 51):=⟨_,rfl⟩
   have HGA:=zh (show wD_9.heap[ga]? = some (.cells cx.toArray 51 (0,0)) by rw [hwD_9,hga];exact heap_alloc_new _ _)
   have hmwD_9:Mod No wD wD_9:=by rw [hwD_9];exact (Mod.refl No _).alloc _
   have HGL:=zh (show wD.heap.size<=ga by omega)
   refine wp_value (v:=.slice (some ⟨ga,0,none⟩) 1 1) (w':=wD_9) (by rw [hga,hwD_9];apply fx_new HC.out (.tmp 76) <;> rfl) ?_
   clear hwD_9 hga
   show K (Act.put _ (some 77) _) _
   have hS1:=hS0.trans hmwD_9
   refine hK.out _ _ (fun _=>hS1) ?_
   clear hK K
   refine wpAnyT_one 16 rfl (by kernel_rfl) rfl ?_
   intro K hK
   refine wp_app_sl wD_9 (.tmp 77) (.tmp 83) 22 (by rfl) ga 51 i0 _ 3 48 underlying22 hi0 hz0 hz1 hz2 rfl (by decide) (.slice (some ⟨ga,0,none⟩) 1 1) 1 cx (by rfl) ⟨by rw [HC.out],.inr ⟨ga,1,_,rfl,Nat.le_refl _,HGA.out,Nat.le_refl _,by unfold maxLen;omega,by simp [HC.out],by rw [List.toList_toArray,List.take_of_length_le (by rw [HC.out];decide)]⟩⟩ No 51 tv (n - k) (XS.drop (k*3)) (by rfl) (HTS.out.kn hS1) HLD.out H1D.out (by unfold maxLen;omega) (by omega) (Nat.le_of_lt (lt_of_heap HGA.out)) ?_
   intro v6 w6 hown hg6 _
   obtain ⟨g6,c6,rfl,hg6a⟩:=own_shape hown (by omega)
   have HO6:=zh hown
   have hm6:Mod No wD w6:=hS1.then (Mod.of_grown (S:=fun q=>q=ga) hg6 (fun q e _=>by cases e;rfl)) (fun q hq e=>by have e:q=ga:=e;have h1:=HGL.out;omega)
   have HB6:=zh (show wD.heap.size<=w6.heap.size from Nat.le_trans HBD.out hm6.size)
   clear hown hg6
   show K (Act.put _ (some 84) _) _
   have hS2:=hm6
   refine hK.out _ _ (fun _=>hS2) ?_
   clear hK K
   refine wpAnyT_one 17 rfl (by kernel_rfl) rfl ?_
   intro K hK
   refine wp_app_full w6 (.tmp 75) (.tmp 84) 22 (by rfl) wD.heap.size 51 i0 _ 3 48 underlying22 hi0 hz0 hz1 hz2 rfl sv k (XS.take (k*3)) (by rfl) (by
    rcases HSC.out with h | ⟨a0,h1,h2,h3⟩
    ·exact .inl h
    ·exact .inr ⟨a0,h1,h2,fun j u e=>hS2.cell (h3 j u e) (fun f=>f)⟩) ⟨g6,0,none⟩ (1+(n - k)) c6 (cx++XS.drop (k*3)) (by rfl) (by omega) HO6.out.1 (fun j u e=>HO6.out.cells (g:=g6) rfl j u e) (by unfold maxLen;omega) (by omega) HB6.out ?_
   intro v7 w7 hown7 hm7
   have HO7:=zh hown7
   clear hown7
   show K (Act.put _ (some 85) _) _
   have hS3:=hS2.trans hm7
   refine hK.out _ _ (fun _=>hS3) ?_
   clear hK K
   refine wpAnyT_takeC [19,20] 18 (some 86) ?_ rfl rfl (by kernel_rfl) (fun _ _ _ h=>h) hS3 (Or.inl ⟨by rfl,?_⟩) ?_
   rotate_left
   ·(intro w' hSw;go_simp;try with_reducible rfl)
   simp only [Act.put,yB,yC,yD]
   refine wpAnyT_take 19 (some 87) ?_ rfl rfl (by kernel_rfl) (fun _ _ _ h=>h) hS3 (Or.inl ⟨by rfl,?_⟩) ?_
   rotate_left
   ·(intro w' hSw;go_simp;try with_reducible rfl)
   simp only [Act.put,yB,yC,yD]
   refine wpAnyT_one 20 rfl (by kernel_rfl) rfl ?_
   intro K hK
   have HO8:=zh (show w7.ownsRow wD.heap.size 51 3 v7 (n+1) (ZS.flatMap FlX.cells) by
    have h9:=HO7.out
    rw [HFX.out,show k+(1+(n - k))=n+1 by omega] at h9
    exact h9)
   obtain ⟨v7a,v7c,hv7⟩:=own_len HO8.out
   subst hv7
   have HX:=zh (HEND.out w7 _ hS3 HO8.out)
   obtain ⟨cq,hcq,hfq⟩:=HCQ.out w7 hS3
   go_simp
   show K _ _
   refine hK.out _ _ (fun h=>absurd rfl h) ?_
   clear hK K
   refine wpAnyT_done (by kernel_rfl) ?_ _
   clear hS0 hS1 hS2 hS3
   go_wp2_with fail
   first | refine bodyPost_ret (results_none rfl _ _ _) rfl ?_ | refine bodyPost_end (results_none rfl _ _ _) rfl ?_
   exact fin hR ⟨rfl,HX.out.1,HX.out.2⟩
theorem own_lower {w:World} {b b':Nat} {e:TypeId} {s:Nat} {v:Value} {n:Nat} {xs:List Value} (h:w.ownsRow b e s v n xs) (hb:b'<=b):w.ownsRow b' e s v n xs:=by
 obtain ⟨h1,h2 | ⟨g,cap,cur,hv,hg,r⟩⟩:=h
 ·exact ⟨h1,.inl h2⟩
 ·exact ⟨h1,.inr ⟨g,cap,cur,hv,Nat.le_trans hb hg,r⟩⟩
theorem Mod.one {q:Nat} {w1 w2 w3:World} (h1:Mod (fun p=>p=q) w1 w2) (h2:Mod (fun p=>p=q) w2 w3):Mod (fun p=>p=q) w1 w3:=h1.then h2 (fun i _ e=>by exact e)
set_option maxRecDepth 100000 in
set_option maxHeartbeats 4000000 in
theorem rmake_any {w:World} {B q:Nat} {t:Tr} (h:RTr w (RX B q) q t) (hB:B<=w.heap.size) (ls:List (List UInt8)) (v:Value) (hv:Sl w (fun p=>p=q) 9 v ls.length (strs ls)) (ht:t.length+ls.length<=1000000) :
  Calls prog 119 #[.pointer (some ⟨q,0,none⟩),v] w fun e w'=>e=.returned (.tuple #[])/\RTr w' (RX B q) q (makeT t ls)/\Mod (fun p=>p=q) w w':=by
 refine calls_hide fun R hR=>?_
 have HV:=zh hv
 obtain ⟨va,vc,rfl⟩:=hv.len
 have HT:=zh h
 have HB:=zh hB
 clear h hv hB
 go_enter func119,ntmps119
 go_wp2_with fail
 go_loopw [4] (fun q4 wr=>∃ k:Nat,k<=ls.length/\q4=.int .i64 (k:Int)/\RTr wr (RX B q) q (makeT t (ls.take k))/\Mod (fun p=>p=q) w wr) (fun q _=>ls.length - (intOf q).toNat)
 case atStart=>exact ⟨0,by omega,rfl,HT.out,Mod.refl _ _⟩
 case round =>
  obtain ⟨k,hk,rfl,htr,hm⟩:=hrel
  have hk0:(0:Int)<=(k:Int):=Int.natCast_nonneg _
  have HTR:=zh htr
  have HM:=zh hm
  clear htr hm
  by_cases hlt:k < ls.length
  ·have hk1:(k:Int) < (ls.length:Int):=by omega
   have HVR:=zh (HV.out.keep HM.out (fun _ _ _ a b=>(b a).elim))
   obtain ⟨b,o,c,hvs,-⟩:=HVR.out.shape (by omega)
   cases hvs
   have hcell:=HVR.out.cellN (i:=k) (by rw [strs_length];exact hlt)
   have e0:(strs ls)[k]'(by rw [strs_length];exact hlt)=strV ls[k]:=by simp [strs]
   rw [e0] at hcell
   have HMK:=zh (show makeT t (ls.take (k+1))=putT (makeT t (ls.take k)) ⟨ls[k],true,[]⟩ by rw [List.take_succ_eq_append_getElem hlt,make_append];rfl)
   have HPT:=zh (rput_any HTR.out (Nat.le_trans HB.out HM.out.size) (by have:=(make_all (ls.take k) t).1;rw [List.length_take] at this;omega) ⟨⟨ls[k],true,[]⟩,.slice none 0 0⟩ (.inl ⟨rfl,rfl,rfl⟩))
   unfold FlX.cells at HPT
   dsimp only at HPT
   unfold strV at hcell HPT
   generalize (⟨ls[k].toArray⟩:ByteArray)=L at *
   clear e0
   go_wp2_with fail
   with_reducible refine HPT.out.mono ?_
   rintro e w2 ⟨rfl,ht2,hm2⟩
   have HT2:=zh ht2
   have HM2:=zh (HM.out.one hm2)
   clear ht2 hm2 hcell
   go_wp2_with fail
   exact ⟨⟨k+1,by omega,rfl,by rw [HMK.out];exact HT2.out,HM2.out⟩,by show ls.length - ((k:Int)+1).toNat < ls.length - (k:Int).toNat;omega⟩
  ·have hk1:¬ (k:Int) < (ls.length:Int):=by omega
   have HE:=zh (show ls.take k=ls from List.take_of_length_le (by omega))
   go_wp2_with fail
   first | refine bodyPost_ret (results_none rfl _ _ _) rfl ?_ | refine bodyPost_end (results_none rfl _ _ _) rfl ?_ | skip
   exact fin hR ⟨rfl,by have:=HTR.out;rw [HE.out] at this;exact this,HM.out⟩
def aheadL (t:Tr):List (List UInt8)->Option (List (List UInt8))
 | []=>some []
 | d :: ds=>match atT t d with
  | none=>(aheadL t ds).map (d :: ·)
  | some f=>if f.dir then aheadL t ds else none
def presL (l:List (List UInt8)):List (List UInt8):=(List.range (l.length - 1)).map fun i=>glueP (l.take (i+1))
theorem presL_length (l:List (List UInt8)):(presL l).length=l.length - 1:=by simp [presL]
theorem presL_get (l:List (List UInt8)) {i:Nat} (hi:i < (presL l).length):(presL l)[i]=glueP (l.take (i+1)):=by simp [presL]
def RahPost (w w':World) (o:Option (List (List UInt8))) (e:Ending):Prop:=match o with
 | none=>e=.returned (.tuple #[.bool true,.slice none 0 0])
 | some L=>∃ v,e=.returned (.tuple #[.bool false,v])/\w'.ownsRow w.heap.size 9 1 v L.length (strs L)
def partsL (p:List UInt8):List (List UInt8):=if p=[] then [] else splitC 47 p
theorem wtP_take (l:List (List UInt8)) (k:Nat):wtP (l.take k)<=wtP l:=by
 have h:=wtP_append (l.take k) (l.drop k)
 rw [List.take_append_drop] at h
 omega
set_option maxRecDepth 100000 in
theorem ss_to {g o n c k:Nat} (hk:k<=c) (W:World):(Instr.sliceAt 43 (.slice (some ⟨g,o,none⟩) n c) none (some (.int .i64 (k:Int))) none).run prog W=.ok (.slice (some ⟨g,o,none⟩) k c) W:=by
 have h1:(0:Int)<=(k:Int):=Int.natCast_nonneg _
 have h2:(k:Int)<=(c:Int):=by omega
 go_simp
set_option maxRecDepth 100000 in
set_option maxHeartbeats 8000000 in
theorem rahead_any {X:Nat->Prop} {w:World} {q:Nat} {t:Tr} (h:RTr w X q t) (p:List UInt8) (hp:p.length<=100000) (ht:t.length<=1000000) :
  Calls prog 118 #[.pointer (some ⟨q,0,none⟩),strV p] w fun e w'=>RahPost w w' (aheadL t (presL (partsL p))) e/\Mod No w w':=by
 refine calls_hide fun R hR=>?_
 have HT:=zh h
 have HPP:=zh (show Calls prog 177 #[strV p] w fun e w'=>∃ v,e=.returned v/\w'.ownsRow w.heap.size 9 1 v (partsL p).length (strs (partsL p))/\Mod No w w' from rparts_any p (by omega) w)
 obtain ⟨i0,hi0,hz0,hz1,hz2⟩:=info_parts info_strR
 obtain ⟨ps,hps⟩:∃ ps,ps=partsL p:=⟨_,rfl⟩
 have HW:=zh (show wtP ps<=100001 by
  rw [hps]
  unfold partsL
  split
  ·exact Nat.zero_le _
  ·rw [split_wt];omega)
 have hpl:ps.length<=100001:=by
  rw [hps]
  unfold partsL
  split
  ·exact Nat.zero_le _
  ·have:=splitC_length_le 47 p;omega
 rw [<- hps] at HPP hR
 obtain ⟨PO,hPO⟩:∃ PO:World->Ending->Prop,PO=fun w' e=>RahPost w w' (aheadL t (presL ps)) e:=⟨_,rfl⟩
 have HRE:=zh (show ∀ e w',PO w' e/\Mod No w w'->R e w' from fun e w' h=>fin hR (by rw [hPO] at h;exact h))
 have HFI:=zh (show aheadL t (presL ps)=none->∀ w',PO w' (.returned (.tuple #[.bool true,.slice none 0 0])) from fun h w'=>by rw [hPO];show RahPost w w' (aheadL t (presL ps)) _;rw [h];rfl)
 have HLA:=zh (show ∀ L,aheadL t (presL ps)=some L->∀ w' v,w'.ownsRow w.heap.size 9 1 v L.length (strs L)->PO w' (.returned (.tuple #[.bool false,v])) from fun L h w' v ho=>by rw [hPO];show RahPost w w' (aheadL t (presL ps)) _;rw [h];exact ⟨v,rfl,ho⟩)
 clear hps hPO hR h
 unfold strV at *
 generalize (⟨p.toArray⟩:ByteArray)=P at *
 go_enter func118,ntmps118
 go_wp2_with fail
 with_reducible refine HPP.out.mono ?_
 rintro e w1 ⟨sv,rfl,hown,hm1⟩
 have HSV:=zh (Sl.of_own (X:=No) hown (fun _ _ f=>f))
 have HM1:=zh hm1
 obtain ⟨sa,sc,rfl⟩:=own_len hown
 obtain ⟨B,hB⟩:∃ B,B=w1.heap.size:=⟨_,rfl⟩
 have HB:=zh hB
 have HBW:=zh (show w.heap.size<=B by rw [hB];exact hm1.size)
 clear hown hm1 HPP hB
 go_wp2_with fail
 go_loopw [6,8] (fun o q8 wr=>∃ (k:Nat) (outs:List (List UInt8)),k+1<=max ps.length 1/\q8=.int .i64 ((k+1:Nat):Int)/\wr.ownsRow B 9 1 o outs.length (strs outs)/\Mod No w1 wr/\outs.length<=k/\aheadL t (presL ps)=(aheadL t ((presL ps).drop k)).map (outs ++ ·)) (fun _ q _=>ps.length - (intOf q).toNat)
 case atStart=>exact ⟨0,[],by omega,rfl,⟨rfl,.inl ⟨rfl,rfl⟩⟩,Mod.refl _ _,by simp,by rw [List.drop_zero];cases aheadL t (presL ps) <;> rfl⟩
 case round =>
  obtain ⟨k,outs,hk,rfl,hown,hmod,hol,hpa⟩:=hrel
  have hk0:(0:Int)<=((k+1:Nat):Int):=Int.natCast_nonneg _
  have HO:=zh hown
  have HM:=zh hmod
  have HPA:=zh hpa
  have hbase:B<=wr.heap.size:=Nat.le_trans (Nat.le_of_eq HB.out) hmod.size
  obtain ⟨oa,oc,rfl⟩:=own_len hown
  clear hown hmod hpa
  by_cases hlt:k+1 < ps.length
  ·have hk1:((k+1:Nat):Int) < (ps.length:Int):=by omega
   have HSR:=zh (HSV.out.kn HM.out)
   obtain ⟨b,o,c,hvs,hnc,hcm,-⟩:=HSR.out.shape (by omega)
   have hsa:sa=some ⟨b,o,none⟩:=by cases hvs;rfl
   have hsc:sc=c:=by cases hvs;rfl
   subst hsa hsc
   clear hvs
   have hki:k < (presL ps).length:=by rw [presL_length];omega
   obtain ⟨d,hd⟩:∃ d,d=glueP (ps.take (k+1)):=⟨_,rfl⟩
   have HDR:=zh (show aheadL t ((presL ps).drop k)=match atT t d with
     | none=>(aheadL t ((presL ps).drop (k+1))).map (d :: ·)
     | some f=>if f.dir then aheadL t ((presL ps).drop (k+1)) else none by
    rw [List.drop_eq_getElem_cons hki,presL_get,<- hd];rfl)
   have HSL:=zh (ss_to (g:=b) (o:=o) (n:=ps.length) (c:=sc) (k:=k+1) (by omega))
   have HGL:=zh (show Calls prog 176 #[.slice (some ⟨b,o,none⟩) (k+1) sc] wr fun e w'=>e=.returned (strV d)/\w'=wr from by
    have h9:=rglue_any (ps.take (k+1)) (by have:=wtP_take ps (k+1);have:=HW.out;omega) (.slice (some ⟨b,o,none⟩) (k+1) sc) wr (by
     rcases HSR.out with ⟨h,-⟩ | ⟨g,of,c0,cur,fz,hv,h1,h2,h3,h4,h5,h6⟩
     ·cases h
     ·cases hv
      have e1:(ps.take (k+1)).length=k+1:=by rw [List.length_take];omega
      have e2:strs (ps.take (k+1))=(strs ps).take (k+1):=by simp [strs,List.map_take]
      have e3:((strs ps).take (k+1)).length=k+1:=by rw [List.length_take,strs_length];omega
      rw [e1,e2]
      refine .inr ⟨b,o,sc,cur,fz,rfl,by omega,h2,h3,h4,?_,fun i hi=>?_⟩
      ·rw [e3];rw [strs_length] at h5;omega
      ·rw [e3] at hi
       rw [h6 i (by rw [strs_length];omega),List.getElem?_take,if_pos hi])
    rw [<- hd] at h9
    exact h9)
   have HAT:=zh (rat_any (HT.out.no (HM1.out.trans HM.out)) d ht)
   have hdl:d.length<=1000000:=by
    have h1:=glue_wt (ps.take (k+1))
    have h2:=wtP_take ps (k+1)
    have h3:=HW.out
    rw [hd];omega
   unfold strV at HGL HAT
   generalize hDD:(⟨d.toArray⟩:ByteArray)=DD at *
   have HDD:=zh (show strV d=.string DD by unfold strV;rw [hDD])
   clear hDD hd
   have hsl:=HSL.out
   go_wp2_with fail
   with_reducible refine HGL.out.mono ?_
   rintro e w2 ⟨rfl,rfl⟩
   clear HGL
   go_wp2_with fail
   with_reducible refine HAT.out.mono ?_
   rintro e w3 ⟨⟨z,rfl,hz⟩,rfl⟩
   clear HAT
   have hz1:z = -1/\atT t d=none\/∃ (j:Nat) (f:Fl),z=(j:Int)/\t[j]? = some f/\atT t d=some f:=hz
   clear hz
   rcases hz1 with ⟨rfl,hn⟩ | ⟨j,f,rfl,hf,hs⟩
   ·have HN2:=zh (show aheadL t (presL ps)=(aheadL t ((presL ps).drop (k+1))).map ((outs++[d]) ++ ·) by
     rw [HPA.out,HDR.out,hn]
     show Option.map _ (Option.map _ _)=_
     rw [Option.map_map]
     congr 1
     funext x
     simp)
    clear hn
    have HMA:=zh ((Mod.refl No w3).alloc (.cells #[.string DD] 9))
    have HOA:=zh (own_keepM HO.out HMA.out (fun _ _ f=>f))
    have HSA:=zh (show Sl (w3.alloc (.cells #[.string DD] 9)) No 9 (.slice (some ⟨w3.heap.size,0,none⟩) 1 1) 1 [.string DD] from .inr ⟨w3.heap.size,0,1,_,(0,0),rfl,Nat.le_refl _,by decide,fun f=>f,heap_alloc_new w3 _,by simp,fun i hi=>by
     have h0:i=0:=by simp at hi;exact hi
     subst h0;rfl⟩)
    have hbA:B<=(w3.alloc (.cells #[.string DD] 9)).heap.size:=Nat.le_trans hbase HMA.out.size
    go_wp2_with (at_builtin;refine app_sl _ rfl _ _ 43 rfl B 9 i0 (.string ⟨#[]⟩) 1 16 underlying43 hi0 hz0 hz1 hz2 rfl (by decide) _ _ _ rfl HOA.out No 9 _ 1 [.string DD] rfl HSA.out rfl (by simp [Value.oneCell']) ?_ ?_ hbA ?_)
    ·unfold maxLen;omega
    ·omega
    intro v' w2 hown2 hg2 _
    have HO2:=zh hown2
    have HM2:=zh ((HM.out.trans HMA.out).then (Mod.of_grown (S:=fun q=>B<=q) hg2 (fun q e _=>(HOA.out.lt _ e).1)) (fun i hi hq=>absurd hi (by have:=HB.out;omega)))
    clear hown2 hg2
    obtain ⟨va,vc,rfl⟩:=own_len HO2.out
    go_wp2_with fail
    refine ⟨⟨k+1,outs++[d],by omega,rfl,?_,HM2.out,by simp;omega,HN2.out⟩,by show ps.length - (((k+1:Nat):Int)+1).toNat < ps.length - ((k+1:Nat):Int).toNat;omega⟩
    rw [List.length_append,strs_append]
    have h:=HO2.out
    rw [show strs [d]=[.string DD] from by show [strV d]=_;rw [HDD.out]]
    exact h
   ·have hjl:j < t.length:=(List.getElem?_eq_some_iff.1 hf).1
    obtain ⟨tv,ys,h1,h2,h3,-⟩:=HT.out.no (HM1.out.trans HM.out)
    have hyl:ys.length=t.length:=by rw [<- h2,List.length_map]
    obtain ⟨ta,tc,rfl⟩:=h3.len
    obtain ⟨tb,tof,tcc,hvs,-⟩:=h3.shape (by omega)
    cases hvs
    obtain ⟨-,d1,-⟩:=fls_cells ((SvX.of h3).shrink (fun _ _ f=>f.elim)) (k:=j) (by omega)
    have hfe:ys[j].f=f:=by
     have h:=hf
     rw [<- h2,List.getElem?_map,List.getElem?_eq_getElem (by omega)] at h
     exact Option.some.inj h
    rw [hfe] at d1
    have c0:=cell_ofA h1 (i:=0) rfl
    have hj0:(0:Int)<=(j:Int):=Int.natCast_nonneg _
    have hj1:(j:Int) < (ys.length:Int):=by omega
    have hj2:¬ (j:Int) < 0:=by omega
    clear h1 h2 h3 hfe hf
    cases hfd:f.dir with
    | true =>
     have HN2:=zh (show aheadL t (presL ps)=(aheadL t ((presL ps).drop (k+1))).map (outs ++ ·) by
      rw [HPA.out,HDR.out,hs]
      show Option.map _ (if f.dir then _ else _)=_
      rw [hfd];rfl)
     rw [hfd] at d1
     clear hfd hs
     go_wp2_with fail
     exact ⟨⟨k+1,outs,by omega,rfl,HO.out,HM.out,by omega,HN2.out⟩,by show ps.length - (((k+1:Nat):Int)+1).toNat < ps.length - ((k+1:Nat):Int).toNat;omega⟩
    | false =>
     have HN2:=zh (show aheadL t (presL ps)=none by
      rw [HPA.out,HDR.out,hs]
      show Option.map _ (if f.dir then _ else _)=_
      rw [hfd];rfl)
     rw [hfd] at d1
     clear hfd hs
     go_wp2_with fail
     exact fin HRE ⟨HFI.out HN2.out _,HM1.out.trans HM.out⟩
  ·have hk1:¬ ((k+1:Nat):Int) < (ps.length:Int):=by omega
   have HE:=zh (show aheadL t (presL ps)=some outs by
    rw [HPA.out,List.drop_of_length_le (by rw [presL_length];omega)]
    show some (outs++[])=_
    rw [List.append_nil])
   go_wp2_with fail
   exact fin HRE ⟨HLA.out outs HE.out _ _ (own_lower HO.out HBW.out),HM1.out.trans HM.out⟩
end Go.Proofs.YtmppeipgjcjdkaaGreatDoor
