/-
  Layers 0 to 14: helps of the laws of indexes. No statement is proved here; no condition.
-/
import Derived.Test.YtgiigemfbebcgaaGreatDoorR41
import Derived.Test.YtgiigemfbebcgaaGreatDoorR42
import Derived.Test.YtgiigemfbebcgaaGreatDoorR37
import Derived.Test.YtgiigemfbebcgaaGreatDoorR12
import Derived.Test.YtgiigemfbebcgaaGreatDoorR24
import Derived.ChangeSlices
import Derived.OpenShut
import Derived.Deep.Slices
import Derived.ProofKit
import Derived.ChangeOld
import Derived.Great.Walk
import Derived.Great.CaseRows
namespace Go.Proofs.YtgiigemfbebcgaaGreatDoor
open _root_.Go.Proofs.Tryz
open Go.ChangeShapes Go.WideShapes Go.ChangeAt Go.RowKit
structure SrIn (w:World) (x:SrX):Prop where
 needs:SvX w No x.nv x.r.needs.length (u16s x.r.needs)
 small:∀ t ∈ x.r.needs,t < 65536
theorem SrIn.no {w w':World} {x:SrX} (h:SrIn w x) (hm:Mod No w w'):SrIn w' x:=⟨h.needs.kn hm,h.small⟩
instance:Inhabited SrX:=⟨⟨⟨0,0,[],0,0⟩,.slice none 0 0⟩⟩
def SrsIn (w:World) (a:Option Addr) (len:Nat) (xs:List SrX):Prop:=xs.length=len/\(∀ x ∈ xs,SrIn w x)/\∀ cap,(len<=cap/\cap<=maxLen\/len=0)->SvX w No (.slice a len cap) len (xs.flatMap SrX.cells)
theorem add_at9 (b o i:Nat):(⟨b,o,none⟩:Addr).add i=⟨b,o+i,none⟩:=by
 unfold Addr.add
 split
 ·rename_i h;subst h;rfl
 ·rfl
theorem cells9 {w:World} {base b o c:Nat} {cs:List Value} (h:w.cells? base (⟨b,o,none⟩:Addr) c=some cs):cs.length=c/\∀ j u,cs[j]? = some u->w.cell? ⟨b,o+j,none⟩=some u:=by
 obtain ⟨_,hlen,hcell⟩:=World.cells?_some h
 refine ⟨hlen,fun j u hj=>?_⟩
 have hj7:j < c:=by have:=(List.getElem?_eq_some_iff.1 hj).1;omega
 have:=hcell j hj7
 rw [hj,add_at9] at this
 exact this
theorem sv_cells {w:World} {b o len cap:Nat} {xs:List Value} (hl:len<=cap) (hm:cap<=maxLen) (hx:0 < xs.length) (hc:∀ i (hi:i < xs.length),w.cell? ⟨b,o+i,none⟩=some xs[i]):∃ e,Sl w No e (.slice (some ⟨b,o,none⟩) len cap) len xs:=by
 have h0:=hc 0 hx
 cases hh:w.heap[b]? with
 | none=>simp [World.cell?,hh] at h0
 | some ob =>
  cases ob with
  | cells cur e fz =>
   have hcs:∀ i (hi:i < xs.length),cur[o+i]? = some xs[i]:=fun i hi=>by
    have h:=hc i hi
    simpa [World.cell?,hh] using h
   refine ⟨e,.inr ⟨b,o,cap,cur,fz,rfl,hl,hm,fun f=>f,hh,?_,fun i hi=>by rw [hcs i hi,List.getElem?_eq_getElem hi]⟩⟩
   have h9:=hcs (xs.length - 1) (by omega)
   have h8:=(Array.getElem?_eq_some_iff.1 h9).1
   omega
  | _=>simp [World.cell?,hh] at h0
set_option maxRecDepth 100000 in
theorem u16s_open {H:Type} {enc:TypeId × Value->H} {w:World} {base:Nat} {held:Bool} {fuel:Nat} {cs:List Value} {x:DataW H × List MemPlace} (h:DataW.trod enc prog w base (fun _=>true) held fuel 70 cs=some x) :
  ∃ (v:Value) (l:List Nat),cs=[v]/\SvX w No v l.length (u16s l)/\∀ t ∈ l,t < 65536:=by
 rcases open_ints underlying70 underlying69 (by kernel_rfl) h with ⟨hcs,_⟩ | ⟨a,len,cap,zs,hcs,_,hl,hm,hz,_,hcell,hwf⟩
 ·exact ⟨_,[],hcs,⟨⟨none,0,rfl⟩,.inl ⟨rfl,rfl⟩⟩,fun t ht=>by cases ht⟩
 ·rw [if_pos rfl] at hz
  have hb:∀ z ∈ zs,0<=z/\z < 65536:=fun z hzm=>by
   have h:=bounds_u16 (hwf z hzm)
   omega
  have hll:((zs.take len).map Int.toNat).length=len:=by rw [List.length_map,List.length_take,hz];omega
  refine ⟨_,(zs.take len).map Int.toNat,hcs,?_,fun t ht=>?_⟩
  ·rw [hll]
   refine ⟨⟨some a,cap,rfl⟩,?_⟩
   rcases Nat.eq_zero_or_pos len with h0 | h0
   ·left;subst h0;exact ⟨rfl,rfl⟩
   ·right
    obtain ⟨b,o,sp⟩:=a
    have h1:=hcell 0 (by omega)
    have hsp:sp=none:=by simpa [Addr.add] using World.cell?_spot h1
    subst hsp
    refine sv_cells hl hm (by unfold u16s;rw [List.length_map,hll];exact h0) (fun i hi=>?_)
    have hi2:i < len:=by unfold u16s at hi;rw [List.length_map,hll] at hi;exact hi
    have h2:=hcell i (by omega)
    rw [add_at9] at h2
    rw [h2]
    have hi3:i < zs.length:=by omega
    have h3:=hb zs[i] (List.getElem_mem hi3)
    simp only [u16s,List.getElem_map,List.getElem_take,List.getD_eq_getElem?_getD,List.getElem?_eq_getElem hi3,Option.getD_some]
    rw [Int.toNat_of_nonneg h3.1]
  ·obtain ⟨z,hz2,rfl⟩:=List.mem_map.1 ht
   have h3:=hb z (List.mem_of_mem_take hz2)
   omega
theorem byte9 (x:Int) (h:(Lit.int .u8 x).wf=true):∃ k:Nat,x=(k:Int)/\k < 256:=by
 have h2:=bounds_u8 h
 exact ⟨x.toNat,by omega,by omega⟩
set_option maxRecDepth 100000 in
theorem sr_open {H:Type} {enc:TypeId × Value->H} {w:World} {base:Nat} {held:Bool} {n:Nat} {cs:List Value} {x:DataW H × List MemPlace} (h:DataW.trod enc prog w base (fun _=>true) held n 72 cs=some x) :
  ∃ v:SrX,cs=SrX.cells v/\SrIn w v:=by
 obtain ⟨xs,m,_,rfl,hlen,hxl,hf⟩:=DataW.trod_struct underlying72 h
 have hx:xs.length=5:=hxl
 have hc:cs.length=5:=hlen.trans (by kernel_rfl)
 match cs,hc with
 | [c0,c1,c2,c3,c4],_ =>
  have e5:prog.cellsOf 5=1:=by kernel_rfl
  have e7:prog.cellsOf 70=1:=by kernel_rfl
  have g0:DataW.trod enc prog w base (fun _=>true) held m 5 (([c0,c1,c2,c3,c4].drop 0).take (prog.cellsOf 5))=xs[0]?:=hf 0 _ rfl
  rw [e5,List.getElem?_eq_getElem (by omega)] at g0
  have g1:DataW.trod enc prog w base (fun _=>true) held m 5 (([c0,c1,c2,c3,c4].drop 1).take (prog.cellsOf 5))=xs[1]?:=hf 1 _ rfl
  rw [e5,List.getElem?_eq_getElem (by omega)] at g1
  have g2:DataW.trod enc prog w base (fun _=>true) held m 70 (([c0,c1,c2,c3,c4].drop 2).take (prog.cellsOf 70))=xs[2]?:=hf 2 _ rfl
  rw [e7,List.getElem?_eq_getElem (by omega)] at g2
  have g3:DataW.trod enc prog w base (fun _=>true) held m 5 (([c0,c1,c2,c3,c4].drop 3).take (prog.cellsOf 5))=xs[3]?:=hf 3 _ rfl
  rw [e5,List.getElem?_eq_getElem (by omega)] at g3
  have g4:DataW.trod enc prog w base (fun _=>true) held m 5 (([c0,c1,c2,c3,c4].drop 4).take (prog.cellsOf 5))=xs[4]?:=hf 4 _ rfl
  rw [e5,List.getElem?_eq_getElem (by omega)] at g4
  obtain ⟨n0,z0,_,w0⟩:=DataW.trod_int underlying5 g0
  obtain ⟨n1,z1,_,w1⟩:=DataW.trod_int underlying5 g1
  obtain ⟨n3,z3,_,w3⟩:=DataW.trod_int underlying5 g3
  obtain ⟨n4,z4,_,w4⟩:=DataW.trod_int underlying5 g4
  simp only [List.drop_zero,List.drop_succ_cons,List.take_succ_cons,List.take_zero,List.cons.injEq,and_true] at z0 z1 z3 z4 g2
  subst z0 z1 z3 z4
  obtain ⟨v,l,hcs,hl,ht⟩:=u16s_open g2
  simp only [List.cons.injEq,and_true] at hcs
  subst hcs
  obtain ⟨k0,rfl,-⟩:=byte9 n0 w0
  obtain ⟨k1,rfl,-⟩:=byte9 n1 w1
  obtain ⟨k3,rfl,-⟩:=byte9 n3 w3
  obtain ⟨k4,rfl,-⟩:=byte9 n4 w4
  exact ⟨⟨⟨k0,k1,l,k3,k4⟩,_⟩,rfl,hl,ht⟩
set_option maxRecDepth 100000 in
theorem srs_open {H:Type} {enc:TypeId × Value->H} {w:World} {base:Nat} {held:Bool} {fuel:Nat} {cs:List Value} {x:DataW H × List MemPlace}
  (h:DataW.trod enc prog w base (fun _=>true) held fuel 22 cs=some x):∃ a len cap,∃ l:List SrX,cs=[.slice a len cap]/\SrsIn w a len l/\(len<=cap/\cap<=maxLen\/len=0):=by
 rcases Go.Deep.open_slice underlying22 h with ⟨hcs,_⟩ | ⟨ad,len,cap,m,n,D,Pl,hcs,_,hl,hm9,hm,_,hx⟩
 ·exact ⟨none,0,0,[],hcs,⟨rfl,(fun x hx=>by cases hx),fun cap _=>⟨⟨none,cap,rfl⟩,.inl ⟨rfl,rfl⟩⟩⟩,.inr rfl⟩
 ·have hlm:len<=m:=by rw [hm];split <;> omega
  obtain ⟨b,o,sp⟩:=ad
  have e7:prog.cellsOf 72=5:=by kernel_rfl
  have hsp:0 < len->sp=none:=fun h0=>by
   obtain ⟨cs',h1,_⟩:=hx 0 (by omega)
   rw [e7] at h1
   obtain ⟨_,hlen,hcell⟩:=World.cells?_some h1
   have h2:=hcell 0 (by omega)
   rw [List.getElem?_eq_getElem (by omega)] at h2
   simpa [Addr.add] using World.cell?_spot h2
  have key:∀ i,i < len->∃ v:SrX,sp=none/\w.rangeAt b (o+i*5) (SrX.cells v)/\SrIn w v:=fun i hi=>by
   obtain ⟨cs',h1,h2⟩:=hx i (by omega)
   have hs:=hsp (by omega)
   subst hs
   rw [e7,add_at9] at h1
   obtain ⟨v,rfl,hv⟩:=sr_open h2
   exact ⟨v,rfl,(cells9 h1).2,hv⟩
  obtain ⟨f,hf⟩:=Go.Deep.choose_lt key
  have hlen:((List.range len).map f).length=len:=by simp
  refine ⟨some ⟨b,o,sp⟩,len,cap,(List.range len).map f,hcs,⟨hlen,fun p hp=>?_,fun cap2 hc2=>⟨⟨_,_,rfl⟩,?_⟩⟩,.inl ⟨hl,hm9⟩⟩
  ·obtain ⟨i,hi,rfl⟩:=List.mem_map.1 hp
   exact (hf i (List.mem_range.1 hi)).2.2
  ·rcases Nat.eq_zero_or_pos len with h0 | h0
   ·left;subst h0;exact ⟨rfl,rfl⟩
   ·right
    have hs:=hsp h0
    subst hs
    have hfl:=flat_length SrX.cells_length ((List.range len).map f)
    rw [hlen] at hfl
    have hcc:len<=cap2/\cap2<=maxLen:=hc2.elim id (fun e=>by omega)
    refine sv_cells hcc.1 hcc.2 (by omega) (fun i hi=>?_)
    have hi5:i < len*5:=by omega
    have hq:i / 5 < len:=by omega
    have hqr:i / 5 < ((List.range len).map f).length:=by rw [hlen];exact hq
    have hg:((List.range len).map f)[i / 5]=f (i / 5):=by simp
    have hr:i % 5 < (SrX.cells (f (i / 5))).length:=by rw [SrX.cells_length];omega
    have h1:=flat_get SrX.cells_length ((List.range len).map f) hqr (j:=i % 5) (u:=(SrX.cells (f (i / 5)))[i % 5]) (by rw [hg];exact List.getElem?_eq_getElem hr)
    rw [Nat.div_add_mod'] at h1
    have h2:=(hf (i / 5) hq).2.1 (i % 5) _ (List.getElem?_eq_getElem hr)
    rw [Nat.add_assoc,Nat.div_add_mod'] at h2
    rw [h2]
    rw [List.getElem?_eq_getElem hi] at h1
    exact h1.symm
end Go.Proofs.YtgiigemfbebcgaaGreatDoor
namespace Go.Proofs.YtgiigemfbebcgaaGreatDoor
open _root_.Go.Proofs.Tryz
open Go.RowKit Go.Sort
def rot0 {α:Type} (xs:List α) (t k:Nat):List α:=if h:0 < xs.length then rotL xs t k h else []
theorem rot0_succ {α:Type} {xs:List α} {t k:Nat} (h:0 < xs.length):rot0 xs t (k+1)=rot0 xs t k++[xs[(k+t) % xs.length]'(Nat.mod_lt _ h)]:=by
 unfold rot0 rotL
 rw [dif_pos h,dif_pos h,List.range_succ,List.map_append]
 rfl
theorem rot0_sub {α:Type} {xs:List α} {t k:Nat} {x:α} (hx:x ∈ rot0 xs t k):x ∈ xs:=by
 unfold rot0 at hx
 split at hx
 ·unfold rotL at hx
  obtain ⟨i,-,rfl⟩:=List.mem_map.1 hx
  exact List.getElem_mem _
 ·cases hx
theorem rot0_len {α:Type} {xs:List α} {t:Nat}:(rot0 xs t xs.length).length=xs.length:=by
 unfold rot0
 split
 ·simp [rotL]
 ·rw [List.length_nil];omega
theorem rot0_vers (name:List UInt8) (ys:List RwX) (t:Nat) (he:Each (ys.map RwX.r)) (hk:∀ r ∈ ys.map RwX.r,IsK r.v):(sortR ltVx (versOf name (rot0 ys t ys.length))).map VrX.v=(sortR ltVx (versOf name ys)).map VrX.v:=by
 rw [vers_plain,vers_plain]
 unfold rot0
 split
 ·next h =>
  have hl:0 < (ys.map RwX.r).length:=by rw [List.length_map];exact h
  have e:(rotL ys t ys.length h).map RwX.r=rotL (ys.map RwX.r) t (ys.map RwX.r).length hl:=by
   unfold rotL
   rw [List.map_map]
   simp only [List.length_map]
   apply List.map_congr_left
   intro i _
   simp
  rw [e]
  exact vs_perm he (rot_each hl he t) hk (rot_mem _ t hl)
 ·next h =>
  have:ys=[]:=List.eq_nil_of_length_eq_zero (by omega)
  subst this
  rfl
theorem vers_desc {name:List UInt8} {ys:List RwX} (he:Each (ys.map RwX.r)) (hk:∀ r ∈ ys.map RwX.r,IsK r.v) {L:List VrX} (hL:L.map VrX.v=(sortR ltVx (versOf name ys)).map VrX.v) {k:Nat} (h1:1<=k) (h2:k < L.length):0 < verC (L[k - 1]'(by omega)).v L[k].v:=by
 rw [vers_plain] at hL
 have hr:=vs_rises (name:=name) he hk
 rw [<- hL] at hr
 have hK:∀ v ∈ L.map VrX.v,IsK v:=fun v hv=>by
  rw [hL] at hv
  obtain ⟨r,hr,rfl⟩:=List.mem_map.1 ((sortR_mem _ _ _).1 hv)
  exact hk r (List.mem_filter.1 hr).1
 have h3:=hr.get (i:=k - 1) (j:=k) (by rw [List.length_map];exact h2) (by omega)
 rw [List.getElem_map,List.getElem_map] at h3
 have ha:=hK (L[k - 1]'(by omega)).v (List.mem_map_of_mem (List.getElem_mem _))
 have hb:=hK L[k].v (List.mem_map_of_mem (List.getElem_mem _))
 exact (rk_lt ha hb).2.2.1.2 ((rk_lt ha hb).1.2 h3)
set_option maxRecDepth 100000 in
set_option maxHeartbeats 16000000 in
theorem order_any (xs:List SrX) (v:Value) (tt ag:Nat) (htt:tt < 256) (hag:ag < 256) (w:World) (hgl:Gl w) (hv:SvX w No v xs.length (xs.flatMap SrX.cells)) (hx:∀ x ∈ xs,SrIn w x) :
  Calls prog 6 #[v,.int .u8 (tt:Int),.int .u8 (ag:Int)] w fun e w'=>e=.returned (.bool true)/\Mod No w w':=by
 refine calls_hide fun R hR=>?_
 obtain ⟨va,vc,rfl⟩:=hv.len
 have HV:=zh hv
 have HX:=zh hx
 have HG:=zh hgl
 have HKN:=zh (known_any w hgl)
 obtain ⟨nx,hnx⟩:∃ n,n=xs.length:=⟨_,rfl⟩
 rw [<- hnx]
 have HLT:=zh (fun (W:World) (hm:Mod No w W)=>show Calls prog 8 #[.slice va nx vc,.int .i64 12] W fun e w'=>(∃ b,e=.returned (.bool b)/\(b=true ↔ xs.length<=12/\∀ x ∈ xs,x.r.needs.length<=4))/\Mod No W w' from by
  rw [hnx]
  exact light_any xs (fun x hx=>by obtain ⟨a,c,e⟩:=(HX.out x hx).needs.len;exact ⟨a,c,e⟩) _ 12 W (HV.out.kn hm))
 have HMD0:=zh (fun (W:World) (hm:Mod No w W) (h8:xs.length<=12) (h4:∀ x ∈ xs,x.r.needs.length<=4)=>show Calls prog 9 #[.slice va nx vc] W fun e w'=>(∃ rv av ys as',e=.returned (.tuple #[rv,av,.string ⟨(indexT ((keptK [] (xs.map SrX.r)).map rowK)).toArray⟩])/\MadeR W.heap.size w' (xs.map SrX.r) rv av ys as')/\Mod No W w' from by
  rw [hnx]
  exact made_any xs (by omega) _ W (fun x hx=>⟨((HX.out x hx).no hm).needs,by have:=h4 x hx;omega,(HX.out x hx).small⟩) h4 (HV.out.kn hm))
 clear hgl hv hx hnx
 go_enter func6,ntmps6
 go_wp2_with fail
 with_reducible refine HKN.out.mono ?_
 rintro e w1 ⟨rfl,hm1⟩
 have HM1:=zh hm1
 clear hm1 HKN
 go_wp2_with fail
 with_reducible refine (HLT.out w1 HM1.out).mono ?_
 rintro e w2 ⟨⟨b,rfl,hb⟩,hm2⟩
 have HM2:=zh (HM1.out.trans hm2)
 have HB:=zh hb
 clear hm2 hb HLT
 rcases b with _ | _
 ·go_wp2_with fail
  exact fin hR ⟨rfl,HM2.out⟩
 ·obtain ⟨h8,h4⟩:=HB.out.1 rfl
  have hl4:∀ r ∈ xs.map SrX.r,r.needs.length<=4:=fun r hr=>by
   obtain ⟨x,hx,rfl⟩:=List.mem_map.1 hr
   exact h4 x hx
  have HMDW:=zh (HMD0.out w2 HM2.out h8 h4)
  obtain ⟨hg1,hg2,hg3⟩:=kept_good (xs.map SrX.r) hl4
  have HGD:=zh (And.intro hg1 hg2)
  obtain ⟨hea,hka⟩:=kept_each (xs.map SrX.r) hl4
  have HLE:=zh (kept_text (xs.map SrX.r) (by rw [List.length_map];omega) hl4)
  have HSM0:=zh (show ∀ r ∈ (keptK [] (xs.map SrX.r)).map rowK,RwSm r from fun r hr=>by
   obtain ⟨s,hs,rfl⟩:=List.mem_map.1 hr
   refine rowK_small s ?_
   rcases kept_mem _ _ _ hs with h7 | h7
   ·cases h7
   ·have:=hl4 s h7;omega)
  have hrl:((keptK [] (xs.map SrX.r)).map rowK).length<=12:=by
   have e1:(xs.map SrX.r).length=xs.length:=List.length_map ..
   omega
  clear h8 h4 HMD0 HB hg1 hg2 hg3 hl4 HV HX
  go_wp2_with fail
  with_reducible refine HMDW.out.mono ?_
  rintro e w3 ⟨⟨rv,av,ys,as',rfl,hmade⟩,hm3⟩
  have HM3:=zh (HM2.out.trans hm3)
  have htold:=hmade.told
  rw [<- htold] at hea hka hrl HLE HGD HSM0
  rw [<- htold]
  have HEA:=zh (And.intro hea hka)
  have HYS:=zh (show ∀ y ∈ ys,RwAt w3 y from hmade.rows.each)
  have HYL:=zh (show Sl w3 No 46 rv ys.length (ys.flatMap RwX.cells) from Sl.of_own hmade.rows.own (fun _ _ f=>f))
  rw [List.length_map] at hrl
  obtain ⟨TX,hTX⟩:∃ TX,TX=indexT (ys.map RwX.r):=⟨_,rfl⟩
  have HTX:=zh hTX
  rw [<- hTX] at HLE
  rw [<- hTX]
  obtain ⟨ra,rc,hrv⟩:=HYL.out.len
  subst hrv
  obtain ⟨n,hn⟩:∃ n,n=ys.length:=⟨_,rfl⟩
  have HN:=zh hn
  rw [<- hn] at hrl ⊢
  clear hm3 HMDW hea hka hmade htold hTX hn
  have HZX:=zh (str_len3 TX)
  generalize hZT:(⟨TX.toArray⟩:ByteArray)=ZT at *
  have HZT:=zh hZT
  clear hZT
  obtain ⟨i0,hi0,hz0,hz1,hz2⟩:=info_parts info_row
  have HI:=zh (And.intro hi0 (And.intro hz0 (And.intro hz1 hz2)))
  clear hi0 hz0 hz1 hz2
  go_wp2_with fail
  go_loopw [10,11] (fun q10 q11 wr=>∃ (k:Nat) (v:Value),k<=n/\q11=.int .i64 (k:Int)/\q10=v/\wr.ownsRow w3.heap.size 46 39 v k ((rot0 ys tt k).flatMap RwX.cells)/\Mod No w3 wr) (fun _ q _=>n - (intOf q).toNat)
  case atStart=>exact ⟨0,.slice none 0 0,by omega,rfl,rfl,⟨by unfold rot0 rotL;split <;> simp,.inl ⟨rfl,rfl⟩⟩,Mod.refl _ _⟩
  case round =>
   obtain ⟨k,v,hk,rfl,rfl,hown,hm⟩:=hrel
   have HM:=zh hm
   have HO:=zh hown
   have hk0:(0:Int)<=(k:Int):=Int.natCast_nonneg _
   obtain ⟨sa,sc,hsv⟩:=own_len hown
   subst hsv
   clear hm hown
   by_cases hlt:k < n
   ·have hk1:(k:Int) < (n:Int):=by omega
    have hn0:0 < ys.length:=by rw [<- HN.out];omega
    obtain ⟨b,o,c,hvs,_⟩:=HYL.out.shape (by omega)
    have hra:ra=some ⟨b,o,none⟩:=by cases hvs;rfl
    subst hra
    obtain ⟨q,hq⟩:∃ q,q=(k+tt) % ys.length:=⟨_,rfl⟩
    have hqn:q < ys.length:=by rw [hq];exact Nat.mod_lt _ hn0
    have HRS:=zh (show rot0 ys tt (k+1)=rot0 ys tt k++[ys[q]] by rw [rot0_succ hn0];subst hq;rfl)
    have HRG:=zh (HM.out.rangeAt (Sl.atM (fun x hx=>RwX.cells_length x (HYS.out x hx).ok.sum) HYL.out hqn) (fun f=>f))
    have HXK:=zh ((HYS.out _ (List.getElem_mem hqn)).ok.keep HM.out (Apart.no _ _))
    have hmod:((k:Int)+(tt:Int)).tmod (n:Int)=(q:Int):=by
     rw [hq,<- HN.out]
     rw [show (k:Int)+(tt:Int)=((k+tt:Nat):Int) by omega]
     exact (Int.ofNat_tmod ..).symm
    have hnz:((n:Int) == 0)=false:=by simp;omega
    have hq0:(0:Int)<=(q:Int):=Int.natCast_nonneg _
    have hq1:(q:Int) < (n:Int):=by have:=HN.out;omega
    have hlq:(n:Int)=ys.length:=by have:=HN.out;omega
    clear hlq
    generalize ys[q]=y at *
    have HL39:=zh (RwX.cells_length y HXK.out.sum)
    obtain ⟨cs,hcs⟩:∃ cs,cs=RwX.cells y:=⟨_,rfl⟩
    rw [<- hcs] at HRG HL39
    have HCS:=zh hcs
    have HC1:=zh (show ∀ u ∈ cs,u.oneCell'=true from fun u hu=>by
     have h:=rows_one HXK.out
     rw [<- hcs] at h
     exact (Array.all_eq_true_iff_forall_mem.1 h) u (by simpa using hu))
    have HNW:=zh (show [Value.agg cs.toArray].flatMap (fun v=>v.cells.toList)=cs by simp [Value.cells])
    obtain ⟨hi0,hz0,hz1,hz2⟩:=HI.out
    clear hcs hvs hq hqn hn0
    go_wp2_with (first | (refine wpList_load_mid rfl 46 _ rfl b (o+q*39) rfl cs _ HRG.out underlying46 rfl (by rw [HL39.out];exact row_info) ?_) | (refine Great.wpList_buildRows rfl 25 46 _ 39 [.agg cs.toArray] rfl (fun _=>47) wr.heap.size rfl _ rfl underlying25 (by kernel_rfl) (by kernel_rfl) (by decide) (by simp) (by simp) rfl (fun v hv=>by rw [List.mem_singleton.1 hv];exact HL39.out) (fun i hi=>by obtain rfl:i=0:=(by simpa using hi);rfl) ?_) | (at_builtin;refine app_sl _ rfl _ _ 25 rfl w3.heap.size 46 i0 _ 39 128 underlying25 hi0 hz0 hz1 hz2 (by simp [rowCs,Value.cells]) (by decide) (.slice sa k sc) k _ rfl (own_keepM HO.out ((Mod.refl No wr).alloc _) (fun _ _ f=>f)) No 46 _ 1 ([Value.agg cs.toArray].flatMap (fun v=>v.cells.toList)) rfl (sl_new wr _ _ (Nat.le_refl 1) (by unfold maxLen;omega)) (by rw [HNW.out];exact HL39.out) (by rw [HNW.out];exact HC1.out) (by unfold maxLen;omega) (by omega) (Nat.le_trans HM.out.size ((Mod.refl No wr).alloc _).size) ?_;intro v7 w7 hown7 hg7 _;rw [HNW.out] at hown7;have HO7:=zh hown7;have HG7:=zh hg7;clear hown7 hg7))
    have HM7:=zh (show Mod No w3 w7 from (HM.out.trans ((Mod.refl No wr).alloc (.cells ([Value.agg cs.toArray].flatMap (fun v=>v.cells.toList)).toArray 46))).then (Mod.of_grown (S:=fun q=>w3.heap.size<=q) HG7.out (fun q e _=>own_base HO.out e)) (fun q hq e=>Nat.lt_irrefl _ (Nat.lt_of_lt_of_le hq e)))
    refine ⟨⟨k+1,v7,by omega,rfl,rfl,?_,HM7.out⟩,by show n - ((k:Int)+1).toNat < n - (k:Int).toNat;omega⟩
    have h9:=HO7.out
    rw [HRS.out,List.flatMap_append]
    have e9:List.flatMap RwX.cells [y]=cs:=by rw [HCS.out];simp
    rw [e9]
    exact h9
   ·obtain rfl:k=n:=by omega
    have hk1:¬ ((k:Int) < (k:Int)):=by omega
    have HM4:=zh (HM3.out.trans HM.out)
    have HZL:=zh (show (rot0 ys tt k).length=k by rw [HN.out];exact rot0_len)
    have HZS:=zh (show ∀ z ∈ rot0 ys tt k,RwAt wr z from fun z hz=>(HYS.out z (rot0_sub hz)).keep HM.out (Apart.no _ _))
    have HZO:=zh (show Sl wr No 46 (.slice sa k sc) (rot0 ys tt k).length ((rot0 ys tt k).flatMap RwX.cells) by rw [HZL.out];exact Sl.of_own HO.out (fun _ _ f=>f))
    have HVQ:=zh (show ∀ name,(sortR ltVx (versOf name (rot0 ys tt k))).map VrX.v=(sortR ltVx (versOf name ys)).map VrX.v from fun name=>by rw [HN.out];exact rot0_vers name ys tt HEA.out.1 HEA.out.2)
    have HYW:=zh (show (∀ y ∈ ys,RwAt wr y)/\Sl wr No 46 (.slice ra k rc) ys.length (ys.flatMap RwX.cells) from ⟨fun y hy=>(HYS.out y hy).keep HM.out (Apart.no _ _),by have h:=HYL.out.keep (S:=No) HM.out (fun _ _ _ f=>f.elim);rw [HN.out];exact h⟩)
    generalize rot0 ys tt k=zs at *
    clear HO HM
    generalize wr=w4 at *
    go_wp2_with fail
    go_loopw [12] (fun q wr=>∃ i:Nat,i<=6/\q=.int .i64 (i:Int)/\Mod No w4 wr) (fun q _=>6 - (intOf q).toNat)
    case atStart=>exact ⟨0,by omega,rfl,Mod.refl _ _⟩
    case round =>
     obtain ⟨i,hi,rfl,hm⟩:=hrel
     have HM:=zh hm
     have hi0:(0:Int)<=(i:Int):=Int.natCast_nonneg _
     clear hm
     by_cases hlt6:i < 6
     ·have hi1:(i:Int) < 6:=by omega
      have HNA:=zh (seatname_any i)
      have hzl:zs.length=k:=HZL.out
      have HV1:=zh (fun (W:World) (hW:Mod No w4 W)=>show Calls prog 22 #[.slice sa k sc,strV (nameK i)] W fun e w'=>∃ v',e=.returned v'/\VrsAt w' v' (sortR ltVx (versOf (nameK i) zs))/\Mod No W w' from versions_any zs (by omega) (nameK i) _ W (fun z hz=>(HZS.out z hz).keep hW (Apart.no _ _)) (HZO.out.kn hW))
      have HV2:=zh (fun (W:World) (hW:Mod No w4 W)=>show Calls prog 22 #[.slice ra k rc,strV (nameK i)] W fun e w'=>∃ v',e=.returned v'/\VrsAt w' v' (sortR ltVx (versOf (nameK i) ys))/\Mod No W w' from versions_any ys (by rw [<- HN.out];omega) (nameK i) _ W (fun z hz=>(HYW.out.1 z hz).keep hW (Apart.no _ _)) (HYW.out.2.kn hW))
      have HEQ:=zh (HVQ.out (nameK i))
      have HDS:=zh (fun j h1 h2=>vers_desc (name:=nameK i) HEA.out.1 HEA.out.2 HEQ.out (k:=j) h1 h2)
      clear hzl
      generalize sortR ltVx (versOf (nameK i) zs)=SA at *
      generalize sortR ltVx (versOf (nameK i) ys)=SB at *
      unfold strV at HNA HV1 HV2
      generalize (⟨(nameK i).toArray⟩:ByteArray)=ZNI at *
      go_wp2_with fail
      with_reducible refine (HNA.out wr).mono ?_
      rintro e w5 ⟨rfl,hw5⟩
      rw [hw5]
      clear hw5 w5 HNA
      go_wp2_with fail
      with_reducible refine (HV1.out wr HM.out).mono ?_
      rintro e w6 ⟨v6,rfl,hv6,hm6⟩
      obtain ⟨xa,xc,hx6⟩:=hv6.sl.len
      subst hx6
      have HV6:=zh hv6
      have HM6:=zh (HM.out.trans hm6)
      clear hv6 hm6 HV1
      go_wp2_with fail
      with_reducible refine (HV2.out w6 HM6.out).mono ?_
      rintro e w7 ⟨v7,rfl,hv7,hm7⟩
      obtain ⟨ya,yc,hx7⟩:=hv7.sl.len
      subst hx7
      have HV7:=zh hv7
      have HV6b:=zh (HV6.out.no hm7)
      have HM7:=zh (HM6.out.trans hm7)
      have HVE:=zh (versions_eq SA SB HEQ.out _ _ w7 HV6b.out HV7.out)
      clear hv7 hm7 HV2 HV6 HV7
      go_wp2_with fail
      with_reducible refine HVE.out.mono ?_
      rintro e w8 ⟨rfl,hm8⟩
      have HV8:=zh (HV6b.out.no hm8)
      have HM8:=zh (HM7.out.trans hm8)
      obtain ⟨ms,hms⟩:∃ ms,ms=SA.length:=⟨_,rfl⟩
      have HMS:=zh hms
      have hml:ms<=9223372036854775807:=by rw [hms];exact HV8.out.sl.lenle
      rw [<- hms]
      clear hm8 HVE HV6b hms
      go_wp2_with fail
      go_loopw [15] (fun q wr=>∃ j:Nat,1<=j/\(j<=ms\/j=1)/\q=.int .i64 (j:Int)/\Mod No w8 wr) (fun q _=>ms - (intOf q).toNat)
      case atStart=>exact ⟨1,Nat.le_refl _,.inr rfl,rfl,Mod.refl _ _⟩
      case round =>
       obtain ⟨j,hj1,hj2,rfl,hmj⟩:=hrel
       have HMJ:=zh hmj
       have hj0:(0:Int)<=(j:Int):=Int.natCast_nonneg _
       clear hmj
       by_cases hjm:j < ms
       ·obtain ⟨q,rfl⟩:∃ q,j=q+1:=⟨j - 1,by omega⟩
        have hqS:q < SA.length:=by have:=HMS.out;omega
        have hqS1:q+1 < SA.length:=by have:=HMS.out;omega
        have hD:=HDS.out (q+1) (by omega) hqS1
        obtain ⟨vg,vo,c6,hvs,_⟩:=HV8.out.sl.shape (by omega)
        have hxa:xa=some ⟨vg,vo,none⟩:=by cases hvs;rfl
        subst hxa
        have h1:w8.rangeAt vg (vo+q*4) (VrX.cells SA[q]):=Sl.at VrX.cells_length HV8.out.sl hqS
        have h2:w8.rangeAt vg (vo+(q+1)*4) (VrX.cells SA[q+1]):=Sl.at VrX.cells_length HV8.out.sl hqS1
        have e1:=HV8.out.each _ (List.getElem_mem hqS)
        have e2:=HV8.out.each _ (List.getElem_mem hqS1)
        have hDa:0 < verC SA[q].v SA[q+1].v:=hD
        clear hD
        generalize SA[q]=za at h1 e1 hDa
        generalize SA[q+1]=zb at h2 e2 hDa
        have H12:=zh (And.intro h1 h2)
        have HCM0:=zh (fun W (hW:Mod No w8 W)=>refvercmp_any za.v zb.v e1.1 e2.1 za.pv zb.pv W (e1.2.kn hW) (e2.2.kn hW))
        have hle:¬ (verC za.v zb.v<=0):=by omega
        have hq1:((q+1:Nat):Int) < (ms:Int):=by omega
        have hqm:(q:Int) < (ms:Int):=by omega
        have hq2:(0:Int)<=(q:Int)+1:=by omega
        have hq3:(q:Int)+1 < (ms:Int):=by omega
        have hq0:(0:Int)<=(q:Int):=Int.natCast_nonneg _
        have hwq:IntKind.i64.wrap (q:Int)=(q:Int):=by rw [IntKind.wrap_i64];omega
        clear h1 h2 e1 e2 hvs hDa
        go_upto_region 21 with fail
        obtain ⟨wD,hwD⟩:∃ x,x=wr.drew:=⟨_,rfl⟩
        have HMD:=zh (show Mod No w8 wD by rw [hwD];exact HMJ.out.drew)
        have HSM:=zh (show ∀ w',Mod No wD w'->w'.rangeAt vg (vo+q*4) (VrX.cells za)/\w'.rangeAt vg (vo+(q+1)*4) (VrX.cells zb) from fun w' h=>⟨(HMD.out.trans h).rangeAt H12.out.1 (fun f=>f),(HMD.out.trans h).rangeAt H12.out.2 (fun f=>f)⟩)
        have HCM:=zh (show ∀ W,Mod No wD W->Calls prog 29 #[.agg #[.int .i64 za.v.ma,.int .i64 za.v.mi,.int .i64 za.v.pa,za.pv],.agg #[.int .i64 zb.v.ma,.int .i64 zb.v.mi,.int .i64 zb.v.pa,zb.pv]] W fun e w'=>e=.returned (.int .i64 (verC za.v zb.v))/\Mod No W w' from fun W hW=>HCM0.out W (HMD.out.trans hW))
        have HWD:=zh hwD
        have hS0:=Mod.refl No wD
        clear hwD HCM0 H12
        generalize verC za.v zb.v=cc at *
        refine wp_region_T (fun w'=>Mod No wD w') 99 (by kernel_rfl) ?_
        rw [<- HWD.out]
        refine yT 0 (some 72) ?_ hS0 ?_ ?_
        rotate_left
        ·(intro w' hSw;go_simp;try with_reducible rfl)
        simp only [Act.put,yB,yC,yD]
        refine yT 1 (some 73) ?_ hS0 ?_ ?_
        rotate_left
        ·(intro w' hSw;go_simp;try with_reducible rfl)
        simp only [Act.put,yB,yC,yD]
        refine yT 2 (some 74) ?_ hS0 ?_ ?_
        rotate_left
        ·(intro w' hSw;go_simp;try with_reducible rfl)
        simp only [Act.put,yB,yC,yD]
        refine yT 3 (some 75) ?_ hS0 ?_ ?_
        rotate_left
        ·(intro w' hSw;go_simp;try with_reducible rfl)
        simp only [Act.put,yB,yC,yD]
        refine yT 4 (some 76) (verV za.v za.pv) hS0 ?_ ?_
        ·(intro w' hSw;apply yloadv (run_loadVar_mid w' vg (vo+q*4) 40 (VrX.cells za) _ (HSM.out w' hSw).1 underlying40 rfl ver_info) (.tmp 75) <;> rfl)
        simp only [Act.put,yB,yC,yD]
        refine yT 5 (some 77) ?_ hS0 ?_ ?_
        rotate_left
        ·(intro w' hSw;go_simp;try with_reducible rfl)
        simp only [Act.put,yB,yC,yD]
        refine yT 6 (some 78) ?_ hS0 ?_ ?_
        rotate_left
        ·(intro w' hSw;go_simp;try with_reducible rfl)
        simp only [Act.put,yB,yC,yD]
        refine yT 7 (some 79) ?_ hS0 ?_ ?_
        rotate_left
        ·(intro w' hSw;go_simp;try with_reducible rfl)
        simp only [Act.put,yB,yC,yD]
        refine yT 8 (some 80) (verV zb.v zb.pv) hS0 ?_ ?_
        ·(intro w' hSw;apply yloadv (run_loadVar_mid w' vg (vo+(q+1)*4) 40 (VrX.cells zb) _ (HSM.out w' hSw).2 underlying40 rfl ver_info) (.tmp 79) <;> rfl)
        simp only [Act.put,yB,yC,yD]
        refine wpAnyT_one 9 rfl (by kernel_rfl) rfl ?_
        intro K hK
        unfold verV
        go_simp
        go_at_call 29
        with_reducible refine (HCM.out _ hS0).mono ?_
        rintro e wE ⟨rfl,hmE⟩
        have HME:=zh hmE
        clear hmE
        show K _ _
        have hS1:=HME.out
        refine hK.out _ _ (fun _=>hS1) ?_
        clear hK K
        refine yT 10 (some 82) ?_ hS1 ?_ ?_
        rotate_left
        ·(intro w' hSw;go_simp;try with_reducible rfl)
        simp only [Act.put]
        refine wpAnyT_done (by kernel_rfl) ?_ _
        have HMK2:=zh (HMD.out.trans HME.out)
        clear hS0 hS1
        go_wp2_with fail
        exact ⟨⟨q+2,by omega,by omega,(by first | rfl | (congr 1;omega)),HMK2.out⟩,by show ms - (((q+1:Nat):Int)+1).toNat < ms - ((q+1:Nat):Int).toNat;omega⟩
       ·have hjn:¬ ((j:Int) < (ms:Int)):=by omega
        go_wp2_with fail
        exact ⟨⟨i+1,by omega,rfl,HM8.out.trans HMJ.out⟩,by show 6 - ((i:Int)+1).toNat < 6 - (i:Int).toNat;omega⟩
     ·obtain rfl:i=6:=by omega
      clear hlt6
      rcases Nat.eq_zero_or_pos k with h0 | h0
      ·subst h0
       go_wp2_with fail
       exact fin hR ⟨rfl,HM4.out.trans HM.out⟩
      ·have hnz:((k:Int) == 0)=false:=by simp;omega
       have hn0:0 < ys.length:=by rw [<- HN.out];exact h0
       obtain ⟨q,hq⟩:∃ q,q=ag % ys.length:=⟨_,rfl⟩
       have hqn:q < ys.length:=by rw [hq];exact Nat.mod_lt _ hn0
       have hmod:(ag:Int).tmod (k:Int)=(q:Int):=by
        rw [hq,<- HN.out]
        exact (Int.ofNat_tmod ..).symm
       have hq0:(0:Int)<=(q:Int):=Int.natCast_nonneg _
       have hq1:(q:Int) < (k:Int):=by have:=HN.out;omega
       obtain ⟨b,o,c,hvs,_⟩:=HYL.out.shape (by omega)
       have hra:ra=some ⟨b,o,none⟩:=by cases hvs;rfl
       subst hra
       have HYA:=zh (HYW.out.1 _ (List.getElem_mem hqn))
       have HRG:=zh (HM.out.rangeAt (Sl.atM (fun x hx=>RwX.cells_length x (HYW.out.1 x hx).ok.sum) (show Sl w4 No 46 (.slice (some ⟨b,o,none⟩) ys.length rc) ys.length (ys.flatMap RwX.cells) by have h:=HYW.out.2;rw [HN.out] at h;exact h) hqn) (fun f=>f))
       have HMY:=zh (show ys[q].r ∈ ys.map RwX.r from List.mem_map_of_mem (List.getElem_mem hqn))
       generalize ys[q]=y at *
       have HL39:=zh (RwX.cells_length y HYA.out.ok.sum)
       have HRO:=zh (rows_one HYA.out.ok)
       obtain ⟨cs,hcs⟩:∃ cs,cs=RwX.cells y:=⟨_,rfl⟩
       rw [<- hcs] at HRG HL39 HRO
       have HCS:=zh hcs
       clear hcs hvs hq hqn hn0
       go_upto_region 26 with (first | (refine wpList_load_mid rfl 46 _ rfl b (o+q*39) rfl cs _ HRG.out underlying46 rfl (by rw [HL39.out];exact row_info) ?_) | (refine wpList_store_row rfl 46 _ _ rfl wr.heap.size cs.toArray rfl rfl 46 _ (heap_alloc_new wr _) (by rw [List.size_toArray,HL39.out];exact row_info) (by show _=cs.length;rw [HL39.out];rfl) HRO.out ?_))
       obtain ⟨gt,hgt⟩:∃ g,g=wr.heap.size:=⟨_,rfl⟩
       rw [<- hgt]
       generalize hw5:World.setRow _ gt cs.toArray=w5
       have HM5:=zh (show Mod No w4 w5 by rw [<- hw5,hgt];exact HM.out.trans (((Mod.refl No wr).alloc _).setRow (fun h=>absurd h (by omega)) _))
       have hgb:w5.heap[gt]? = some (.cells cs.toArray 46 (0,0)):=by rw [<- hw5,hgt];exact setRow_heap _ _ _ _ _ _ (heap_alloc_new wr _)
       have hgn:¬ gt < w4.heap.size:=by have:=HM.out.size;omega
       have hcs38:(38:Nat) < cs.length:=by rw [HL39.out];omega
       obtain ⟨u38,c38⟩:∃ u,w5.cell? ⟨gt,38,none⟩=some u:=⟨_,cell_ofA hgb (i:=38) (v:=cs[38]) (by rw [List.getElem?_toArray,List.getElem?_eq_getElem hcs38])⟩
       have hfz:=frozen_of 38 hgb
       obtain ⟨y2,hy2⟩:∃ y2:RwX,y2=⟨{ y.r with needs:=[] },y.pv,.slice none 0 0⟩:=⟨_,rfl⟩
       obtain ⟨c2,hc2⟩:∃ c2,c2=RwX.cells y2:=⟨_,rfl⟩
       have HC2:=zh (show (w5.setCell ⟨gt,38,none⟩ (.slice none 0 0)).heap[gt]? = some (.cells c2.toArray 46 (0,0)) by
        rw [heap_setCell hgb (.slice none 0 0),hc2,hy2,HCS.out]
        have h:=rows_lastR (zs:=[]) (x:=y) (fun z hz=>by cases hz) HYA.out.ok.sum [] (.slice none 0 0)
        simp only [List.nil_append,List.flatMap_cons,List.flatMap_nil,List.append_nil,List.length_nil,Nat.zero_mul,Nat.zero_add] at h
        rw [<- h]
        simp)
       have HM6:=zh (show Mod No w4 (w5.setCell ⟨gt,38,none⟩ (.slice none 0 0)) from HM5.out.then (Mod.cell1 w5 gt 38 _) (fun q hq e=>by have h9:q=gt:=e;omega))
       have HY2:=zh (show ∀ W,Mod No w4 W->RwAt W y2 from fun W hW=>by
        have h:=(HYA.out.keep hW (Apart.no _ _)).ok
        rw [hy2]
        exact ⟨⟨h.sum,h.small,h.pre,⟨none,0,0,rfl⟩⟩,⟨[],rfl,(fun x hx=>by cases hx),.inl ⟨rfl,rfl,rfl⟩⟩,by simp⟩)
       have HYR:=zh (show y2.r=⟨y.r.name,y.r.v,y.r.sum,y.r.size,[]⟩ by rw [hy2])
       have HS2:=zh (show RwSm y2.r from by
        have h:=HSM0.out y.r HMY.out
        rw [hy2]
        exact ⟨h.ver,h.size⟩)
       have HL2:=zh (show c2.length=39 by rw [hc2,hy2];exact RwX.cells_length _ HYA.out.ok.sum)
       have HCE:=zh hc2
       obtain ⟨U,hU⟩:∃ U,U=indexT [y2.r]:=⟨_,rfl⟩
       have HUE:=zh hU
       have hul:U.length<=8000:=by
        have h1:(indexT [y2.r]).length<=(indexT (ys.map RwX.r)).length:=by
         obtain ⟨A,B,hAB⟩:=List.append_of_mem HMY.out
         rw [hAB,HYR.out]
         unfold indexT
         simp only [List.flatMap_append,List.flatMap_cons,List.flatMap_nil,List.append_nil,List.length_append]
         have h2:(rowT ⟨y.r.name,y.r.v,y.r.sum,y.r.size,[]⟩).length<=(rowT y.r).length:=by
          unfold rowT packT'
          simp [sortR]
         omega
        have h3:=HLE.out
        rw [HTX.out] at h3
        rw [hU];omega
       have HIX:=zh (fun (W:World) (N:Nat) (hW:Mod No w4 W) (hb:W.heap[N]? = some (.cells c2.toArray 46 (0,0)))=>show Calls prog 30 #[.slice (some ⟨N,0,none⟩) 1 1] W fun e w'=>e=.returned (strV U)/\Mod No W w' from by
        have h:=ixtext_any [y2] (by simp) (.slice (some ⟨N,0,none⟩) 1 1) W (fun x hx=>by
         obtain rfl:x=y2:=by simpa using hx
         exact ⟨HY2.out W hW,HS2.out⟩) (.inr ⟨N,0,1,_,_,rfl,Nat.le_refl _,by unfold maxLen;omega,fun f=>f,hb,by rw [HCE.out];simp,fun i hi=>by rw [HCE.out];simp⟩) (by show (indexT [y2.r]).length<=_;rw [<- HUE.out];omega)
        rw [show [y2].map RwX.r=[y2.r] from rfl,<- HUE.out] at h
        exact h)
       have HAG:=zh (show indexL (TX++U)=.inr ((linesL TX).length+1) by
        rw [HTX.out,HUE.out,HYR.out]
        refine index_again HGD.out.1 HMY.out HGD.out.2 (by rw [List.length_map,<- HN.out];omega) ?_ (verC_self _)
        rw [<- HYR.out,<- HUE.out,<- HTX.out,List.length_append]
        have:=HLE.out
        omega)
       obtain ⟨LL,hLL⟩:∃ LL,LL=(linesL TX).length:=⟨_,rfl⟩
       have hLLb:LL<=8001:=by rw [hLL];have h1:=lines_len TX;have h2:=HLE.out;omega
       obtain ⟨ZU,hZU⟩:∃ Z:ByteArray,Z=⟨U.toArray⟩:=⟨_,rfl⟩
       have hz2:¬ (9223372036854775807 < ZT.size+ZU.size):=by
        have h1:=HZX.out
        have h2:=str_len3 U
        rw [<- hZU] at h2
        have h3:=HLE.out
        omega
       have HPQ:=zh (fun (W:World) (hW:Gl W)=>show Calls prog 11 #[.string (ZT++ZU)] W fun e w'=>e=.returned (.tuple #[.slice none 0 0,.int .i64 ((LL:Int)+1),.int .i64 65])/\Mod No W w' from by
        have e1:(.string (ZT++ZU):Value)=strV (TX++U):=by rw [<- HZT.out,hZU,str_app]
        rw [e1]
        refine (ixparse_any (TX++U) (by rw [List.length_append];have:=HLE.out;omega) W hW).mono fun e w' ⟨h,hm2⟩=>⟨?_,hm2⟩
        unfold IxRes at h
        rw [HAG.out] at h
        rw [h,hLL]
        rfl)
       have HLN:=zh (fun (W:World)=>show Calls prog 31 #[.string ZT] W fun e w'=>(∃ a c,e=.returned (.slice a LL c))/\Mod No W w' from by
        have h:=reflines_any TX (by have:=HLE.out;omega) W
        unfold strV at h
        rw [HZT.out] at h
        refine h.mono fun e w' ⟨v,he,hs,hm2⟩=>?_
        obtain ⟨a,c,rfl⟩:=hs.len
        exact ⟨⟨a,c,by rw [he,hLL]⟩,hm2⟩)
       unfold strV at HIX
       rw [<- hZU] at HIX
       have hcc:((LL:Int)+1 == (LL:Int)+1)=true:=by simp
       clear hw5 hgt hgb hgn hcs38 hy2 hc2 hU hLL hZU hul HYA HMY HRG HRO HSM0 HGD
       go_upto_region 27 with fail
       generalize hw6:World.setCell _ _ _=w6 at *
       go_wp2_with (first | (refine wpList_load_row rfl 46 _ rfl gt rfl 46 c2.toArray (0,0) _ HC2.out underlying46 rfl (by rw [List.size_toArray,HL2.out];exact row_info) ?_) | (refine Great.wpList_buildRows rfl 25 46 _ 39 [.agg c2.toArray] rfl (fun _=>97) w6.heap.size rfl _ rfl underlying25 (by kernel_rfl) (by kernel_rfl) (by decide) (by simp) (by simp) rfl (fun v hv=>by rw [List.mem_singleton.1 hv];exact HL2.out) (fun i hi=>by obtain rfl:i=0:=(by simpa using hi);rfl) ?_))
       have hHI:=HIX.out (w6.alloc (.cells c2.toArray 46)) w6.heap.size (HM6.out.alloc _) (heap_alloc_new w6 _)
       have HIW:=zh hHI
       clear hHI HIX
       with_reducible refine HIW.out.mono ?_
       rintro e w7 ⟨rfl,hm7⟩
       have HM7:=zh ((HM6.out.alloc _).trans hm7)
       clear hm7 HIW HC2
       go_wp2_with fail
       with_reducible refine (HPQ.out w7 (HG.out.stay (HM4.out.trans HM7.out) (fun f=>f))).mono ?_
       rintro e w8 ⟨rfl,hm8⟩
       have HM8:=zh (HM7.out.trans hm8)
       clear hm8 HPQ
       go_wp2_with fail
       with_reducible refine (HLN.out w8).mono ?_
       rintro e w9 ⟨⟨la,lc,rfl⟩,hm9⟩
       have HM9:=zh (HM4.out.trans (HM8.out.trans hm9))
       clear hm9 HLN
       go_wp2_with fail
       exact fin hR ⟨rfl,HM9.out⟩
theorem order_walk (a:Option Addr) (len cap:Nat) (xs:List SrX) {w:World} (h:SrsIn w a len xs) (hc:len<=cap/\cap<=maxLen\/len=0) (x:Int) (hx:(Lit.int .u8 x).wf=true) (y:Int) (hy:(Lit.int .u8 y).wf=true) (hgl:Gl w) :
  Calls prog 6 #[.slice a len cap,.int .u8 x,.int .u8 y] w fun e w'=>e=.returned (.bool true)/\Mod No w w':=by
 obtain ⟨hl,hxx,hs⟩:=h
 obtain ⟨tt,rfl,htt⟩:=byte9 x hx
 obtain ⟨ag,rfl,hag⟩:=byte9 y hy
 have h1:=hs cap hc
 rw [<- hl] at h1
 rw [<- hl]
 exact order_any xs _ tt ag htt hag w hgl h1 hxx
end Go.Proofs.YtgiigemfbebcgaaGreatDoor
