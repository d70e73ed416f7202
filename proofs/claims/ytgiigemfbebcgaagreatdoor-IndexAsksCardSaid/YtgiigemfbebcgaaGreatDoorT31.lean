/-
  Layers 0 to 14: helps of the laws of indexes. No statement is proved here; no condition.
-/
import Derived.Test.YtgiigemfbebcgaaGreatDoorT17
import Derived.Test.YtgiigemfbebcgaaGreatDoorT19
import Derived.Test.YtgiigemfbebcgaaGreatDoorT30
import Derived.Test.YtgiigemfbebcgaaGreatDoorT12
import Derived.Test.YtgiigemfbebcgaaGreatDoorT06
import Derived.Test.YtgiigemfbebcgaaGreatDoorT09
namespace Go.Proofs.YtgiigemfbebcgaaGreatDoor
open _root_.Go.Proofs.Tryz
open Go.RowKit Go.Sort
structure Tiny (r:Rw):Prop where
 ver:∃ na nb nc:Nat,r.v=⟨na,nb,nc,[]⟩/\na < 100/\nb < 100/\nc < 100
 size:∃ sz:Nat,r.size=sz/\sz < 100
 needs:r.needs.length<=20
theorem wrt_not {w:World} {B b g:Nat} {cs:Array Value} {ty:TypeId} {fz:Nat × Nat} (h:w.heap[g]? = some (.cells cs ty fz)) (ht:ty ≠ 5) (hg:g ≠ b):¬ Wrt B b w g:=by
 rintro (e | ⟨-,c,fz',hc⟩)
 ·exact hg e
 ·rw [h] at hc
  exact ht (Obj.cells.inj (Option.some.inj hc)).2.1
theorem byte_bv (l:List UInt8):bv l=Lib.byteCells l:=rfl
theorem mod_wrt {w a c:World} {b:Nat} (h:Mod No w a) (k:Mod (Wrt b b a) a c) (hb:w.heap.size<=b):Mod No w c :=
 h.then k (fun i hi e=>by
  rcases e with e | ⟨e,-⟩
  ·omega
  ·omega)
set_option maxRecDepth 100000 in
theorem clonends_own (n:Nat) (hn:n<=1000000) (v:Value) (xs:List Value) (hl:xs.length=n*4) (h1:∀ u ∈ xs,u.oneCell'=true) (w:World) (hv:Sl w No 81 v n xs) :
  Calls prog 52 #[v] w fun e w'=>∃ v',e=.returned v'/\w'.ownsRow w.heap.size 81 4 v' n xs/\Mod No w w':=by
 refine calls_hide fun R hR=>?_
 obtain ⟨i0,hi0,hz0,hz1,hz2⟩:=info_parts info_need
 have hq:∀ (w:World) (a:Option Addr) (n c n' c':Nat),(binOp .eql 44 (.slice a n c) (.slice none n' c')).run prog w=.ok (.bool a.isNone) w:=fun w a n c n' c'=>Lib.run_eql_slice_nil w _ _ a n c n' c' underlying44
 rcases hv with ⟨rfl,rfl,rfl⟩ | hsl
 ·go_enter func52,ntmps52
  go_wp2_with fail
  exact fin hR ⟨_,rfl,⟨rfl,.inl ⟨rfl,rfl⟩⟩,Mod.refl _ _⟩
 ·have HV:=zh (show Sl w No 81 v n xs from .inr hsl)
  obtain ⟨blk,o,c,cur,fz,rfl,hnc,hc,hX,hh,hle,hr⟩:=hsl
  have H1:=zh h1
  clear h1 hr hh hle
  go_enter func52,ntmps52
  go_wp2_with (at_builtin;refine app_sl _ rfl _ _ 44 rfl w.heap.size 81 i0 (.agg #[.string ⟨#[]⟩,.bool false,.slice none 0 0,.string ⟨#[]⟩]) 4 64 underlying44 hi0 hz0 hz1 hz2 rfl (by decide) _ 0 [] rfl (own_none w _ _) No 81 _ n xs rfl (Sl.keep (S:=No) HV.out ((Mod.refl No w).alloc _) (fun _ _ _ f=>f.elim)) hl H1.out (by unfold maxLen;omega) (by omega) (by simp) ?_)
  intro v' w1 hown hgrow _
  have hm:Mod No w w1:=((Mod.refl No w).alloc _).then (T:=fun k=>k=w.heap.size) (Mod.of_grown hgrow (by intro k hk _;simp [Value.ownBlock] at hk;exact hk.symm)) (fun i hi e=>by omega)
  have HX:=zh (show w1.ownsRow w.heap.size 81 4 v' n xs by simpa using hown)
  have HM:=zh hm
  clear hm hown hgrow
  go_wp2_with fail
  exact fin hR ⟨_,rfl,HX.out,HM.out⟩
theorem nds_told {w:World} {v:Value} {l:List Nd} (h:NdsAt w v l):∃ L:List NdY,L.map NdY.n=l/\Sl w No 81 v l.length (L.flatMap NdY.cells):=by
 obtain ⟨xs,h1,h2,h3⟩:=h
 have key:∀ ys:List NdX,(∀ y ∈ ys,OrsAt w y.ov y.n.span.ors)->∃ L:List NdY,L.map NdY.n=ys.map NdX.n/\L.flatMap NdY.cells=ys.flatMap NdX.cells:=by
  intro ys
  induction ys with
  | nil=>exact fun _=>⟨[],rfl,rfl⟩
  | cons y ys ih =>
   intro hy
   obtain ⟨L,e1,e2⟩:=ih (fun z hz=>hy z (by simp [hz]))
   obtain ⟨zs,-,-,hz3⟩:=hy y (by simp)
   obtain ⟨a1,a2,e⟩:=hz3.len
   refine ⟨⟨y.n,a1,y.n.span.ors.length,a2⟩ :: L,by simp [e1],?_⟩
   rw [List.flatMap_cons,List.flatMap_cons,e2]
   unfold NdY.cells NdX.cells
   rw [e]
 obtain ⟨L,e1,e2⟩:=key xs h2
 exact ⟨L,e1.trans h1,by rw [e2];exact h3⟩
set_option maxRecDepth 100000 in
set_option maxHeartbeats 16000000 in
theorem text_any (xs:List RwX) (hx:xs.length<=20) (rv:Value) (w:World) (hok:∀ x ∈ xs,RwAt w x/\Tiny x.r) (hrv:Sl w No 46 rv xs.length (xs.flatMap RwX.cells)) (hlen:(indexT (xs.map RwX.r)).length<=100000) :
  Calls prog 32 #[rv] w fun e w'=>e=.returned (strV (indexT (xs.map RwX.r)))/\Mod No w w':=by
 refine calls_hide fun R hR=>?_
 obtain ⟨ra,rc,rfl⟩:=hrv.len
 have HOK:=zh hok
 have HRV:=zh hrv
 obtain ⟨l,hl⟩:∃ l,l=xs.map RwX.r:=⟨_,rfl⟩
 rw [<- hl] at hlen hR
 have HLL:=zh (show l.length=xs.length by rw [hl];simp)
 have HGX:=zh (show ∀ k (hk:k < xs.length),l[k]'(by rw [HLL.out];exact hk)=xs[k].r from fun k hk=>by simp [hl])
 have HLEN:=zh (show ∀ k,(indexT (l.take k)).length<=(indexT l).length from fun k=>by
  conv=>rhs;rw [<- List.take_append_drop k l]
  unfold indexT
  rw [List.flatMap_append,List.length_append]
  omega)
 have HLE:=zh hlen
 have HFI:=zh (show l.take xs.length=l by rw [<- HLL.out];exact List.take_length)
 clear hok hrv hl hlen
 obtain ⟨n,hn⟩:∃ n,n=xs.length:=⟨_,rfl⟩
 have HNX:=zh hn
 rw [<- hn] at HRV hx HFI
 rw [<- hn]
 clear hn
 go_enter func32,ntmps32
 go_upto_region 2 with fail
 obtain ⟨b,hb⟩:∃ b,b=w.heap.size:=⟨_,rfl⟩
 rw [<- hb]
 have HBW:=zh (show w.heap.size<=b by omega)
 obtain ⟨wa,hwa⟩:∃ z,z=World.alloc w (.cells #[.pointer none,.slice none 0 0] 115):=⟨_,rfl⟩
 have HBA:=zh (show IsBld b b [] wa from by
  rw [hwa,hb]
  exact .inl ⟨Nat.le_refl _,_,heap_alloc_new w _,⟨rfl,.inl ⟨rfl,rfl⟩⟩,fun e=>by (cases e)⟩)
 have HMA:=zh (show Mod No w wa by rw [hwa];exact (Mod.refl No w).alloc _)
 rw [<- hwa]
 clear hwa hb
 go_wp2_with fail
 go_loopw [11] (fun q11 wr=>∃ k:Nat,k<=n/\q11=.int .i64 (k:Int)/\IsBld b b (indexT (l.take k)) wr/\Mod No w wr) (fun q _=>n - (intOf q).toNat)
 case atStart=>exact ⟨0,by omega,rfl,HBA.out,HMA.out⟩
 case round =>
  obtain ⟨k,hk,rfl,hbl,hm⟩:=hrel
  have HM:=zh hm
  have HBL:=zh hbl
  have hk0:(0:Int)<=(k:Int):=Int.natCast_nonneg _
  clear hm hbl
  by_cases hlt:k < n
  ·have hk1:(k:Int) < (n:Int):=by omega
   have hlt2:k < xs.length:=by rw [<- HNX.out];exact hlt
   obtain ⟨rb,o,c,hvs,_⟩:=HRV.out.shape (by omega)
   have hra:ra=some ⟨rb,o,none⟩:=by cases hvs;rfl
   subst hra
   have HRG:=zh (HM.out.rangeAt (Sl.atM (fun x hx=>RwX.cells_length x (HOK.out x hx).1.ok.sum) HRV.out hlt2) (fun f=>f))
   have HXK:=zh ((HOK.out _ (List.getElem_mem hlt2)).1.keep HM.out (Apart.no _ _))
   have HSK:=zh (HOK.out _ (List.getElem_mem hlt2)).2
   have HNW:=zh (HOK.out _ (List.getElem_mem hlt2)).1.nds
   have HTK:=zh (show indexT (l.take (k+1))=indexT (l.take k)++rowT xs[k].r by
    rw [List.take_succ_eq_append_getElem (by rw [HLL.out];exact hlt2),HGX.out k hlt2]
    unfold indexT
    simp)
   have HBD:=zh (show (indexT (l.take k)++rowT xs[k].r).length<=100000 by rw [<- HTK.out];exact Nat.le_trans (HLEN.out (k+1)) HLE.out)
   clear HGX HLEN HLE
   generalize xs[k]=y at *
   generalize indexT (l.take k)=TX at *
   obtain ⟨L,hy1,hy3⟩:=nds_told HNW.out
   have HSE:=zh (show (sortR (ltOf cfNd) L).map NdY.n=sortR ltNd y.r.needs by rw [<- hy1];exact sort_nds L)
   have HLN:=zh (show y.r.needs.length=L.length by rw [<- hy1,List.length_map])
   have HNS:=zh (show Sl w No 81 y.nv L.length (L.flatMap NdY.cells) by rw [<- HLN.out];exact hy3)
   obtain ⟨na,nb,nc,hv,h1,h2,h3⟩:=HSK.out.ver
   obtain ⟨sz,hsz,h4⟩:=HSK.out.size
   have h20:L.length<=20:=by rw [<- HLN.out];exact HSK.out.needs
   obtain ⟨pa,pc,hpe⟩:=HXK.out.ok.pre.len
   have HVT0:=zh (vertext_tiny na nb nc h1 h2 h3 pa pc)
   have HHX0:=zh (hex_any y.r.sum HXK.out.ok.sum)
   have HDT0:=zh (itoa_small sz h4)
   have HPT:=zh (show packT' y.r=[112,97,99,107]++32 :: (y.r.name++32 :: (verT y.r.v++32 :: (hexL y.r.sum++32 :: (decT y.r.size.toNat++[10])))) from rfl)
   have HRT:=zh (show rowT y.r=packT' y.r++(sortR ltNd y.r.needs).flatMap needT' from rfl)
   have HSL:=zh HXK.out.ok.sum
   have HROK:=zh HXK.out.ok
   have HCS0:=zh (show RwX.cells y=strV y.r.name :: (verCs y.r.v y.pv++(bv y.r.sum++[.int .i64 y.r.size,y.nv])) from rfl)
   have HL39:=zh (RwX.cells_length y HXK.out.ok.sum)
   have HOC:=zh (rows_one HXK.out.ok)
   obtain ⟨cs,hcs⟩:∃ cs,cs=RwX.cells y:=⟨_,rfl⟩
   rw [<- hcs] at HRG HCS0 HL39 HOC
   clear hcs hy1 hy3 HXK HSK HNW h1 h2 h3 h4 hvs HROK
   generalize hPK:packT' y.r=PK at *
   generalize hRT:rowT y.r=RT at *
   obtain ⟨SN,hSN⟩:∃ SN,SN=sortR ltNd y.r.needs:=⟨_,rfl⟩
   rw [<- hSN] at HRT HSE
   obtain ⟨NT,hNT⟩:∃ NT,NT=SN.flatMap needT':=⟨_,rfl⟩
   rw [<- hNT] at HRT
   have HNT:=zh hNT
   clear hPK hRT hSN hNT
   obtain ⟨⟨nm,⟨xa,xi,xp,xpr⟩,sm,ys,nds⟩,ypv,ynv⟩:=y
   dsimp only at *
   injection hv with e1 e2 e3 e4
   subst e1
   subst e2
   subst e3
   subst e4
   subst hsz
   subst hpe
   simp only [Int.toNat_natCast] at HPT
   obtain ⟨VT,hVT⟩:∃ VT,VT=verT ⟨(na:Int),(nb:Int),(nc:Int),[]⟩:=⟨_,rfl⟩
   rw [<- hVT] at HVT0 HPT
   obtain ⟨HX,hHX⟩:∃ HX,HX=hexL sm:=⟨_,rfl⟩
   rw [<- hHX] at HHX0 HPT
   obtain ⟨DT,hDT⟩:∃ DT,DT=decT sz:=⟨_,rfl⟩
   rw [<- hDT] at HDT0 HPT
   clear hVT hHX hDT
   unfold strV at HVT0 HDT0 HCS0
   obtain ⟨na1,nc1,hnv⟩:=HNS.out.len
   subst hnv
   go_upto_region 5 with (first | (refine wpList_load_mid rfl 46 _ rfl rb (o+k*39) rfl cs _ HRG.out underlying46 rfl (by rw [HL39.out];exact row_info) ?_) | (refine wpList_store_row rfl 46 _ _ rfl wr.heap.size cs.toArray rfl rfl 46 _ (heap_alloc_new wr _) (by rw [List.size_toArray,HL39.out];exact row_info) (by show _=cs.length;rw [HL39.out];rfl) HOC.out ?_))
   obtain ⟨gb,hgb⟩:∃ g,g=wr.heap.size:=⟨_,rfl⟩
   rw [<- hgb]
   generalize hw0:World.setRow _ gb cs.toArray=w0
   have HM0:=zh (show Mod No wr w0 by rw [<- hw0,hgb];exact ((Mod.refl No wr).alloc _).setRow (fun h=>absurd h (by omega)) _)
   have hga:w0.heap[gb]? = some (.cells cs.toArray 46 (0,0)):=by rw [<- hw0,hgb];exact setRow_heap _ _ _ _ _ _ (heap_alloc_new wr _)
   have HGB:=zh (show gb ≠ b from by
    have hlt:=HBL.out.elim (fun h=>h.lt) (fun h=>h.lt)
    omega)
   have HSM:=zh (show ∀ w':World,w'.heap[gb]? = some (.cells cs.toArray 46 (0,0))->w'.cell? ⟨gb,0,none⟩=some (.string ⟨nm.toArray⟩)/\w'.rangeAt gb 1 [.int .i64 (na:Int),.int .i64 (nb:Int),.int .i64 (nc:Int),.slice pa 0 pc]/\w'.rangeAt gb 5 (bv sm)/\w'.cell? ⟨gb,37,none⟩=some (.int .i64 (sz:Int))/\w'.cell? ⟨gb,38,none⟩=some (.slice na1 L.length nc1) from fun w' h=>by
    have hr:w'.rangeAt gb 0 (.string ⟨nm.toArray⟩ :: (verCs ⟨(na:Int),(nb:Int),(nc:Int),[]⟩ (.slice pa 0 pc)++(bv sm++[.int .i64 (sz:Int),.slice na1 L.length nc1]))):=fun j u hj=>by
     rw [Nat.zero_add]
     exact cell_ofA h (by rw [List.getElem?_toArray,HCS0.out];exact hj)
    have hbl:(bv sm).length=32:=by rw [bv_length,HSL.out]
    refine ⟨hr 0 _ rfl,rangeAt_part (p:=[.string ⟨nm.toArray⟩]) (q:=verCs ⟨(na:Int),(nb:Int),(nc:Int),[]⟩ (.slice pa 0 pc)) (r:=bv sm++[.int .i64 (sz:Int),.slice na1 L.length nc1]) (by exact hr),?_,?_,?_⟩
    ·exact rangeAt_part (p:=.string ⟨nm.toArray⟩ :: verCs ⟨(na:Int),(nb:Int),(nc:Int),[]⟩ (.slice pa 0 pc)) (q:=bv sm) (r:=[.int .i64 (sz:Int),.slice na1 L.length nc1]) (by rw [List.append_assoc];exact hr)
    ·have h9:=rangeAt_part (p:=.string ⟨nm.toArray⟩ :: (verCs ⟨(na:Int),(nb:Int),(nc:Int),[]⟩ (.slice pa 0 pc)++bv sm)) (q:=[.int .i64 (sz:Int),.slice na1 L.length nc1]) (r:=[]) (w:=w') (b:=gb) (o:=0) (by rw [List.append_nil,List.cons_append,List.append_assoc];exact hr) 0 _ rfl
     simp only [List.length_cons,List.length_append,hbl,verCs,List.length_nil] at h9
     exact h9
    ·have h9:=rangeAt_part (p:=.string ⟨nm.toArray⟩ :: (verCs ⟨(na:Int),(nb:Int),(nc:Int),[]⟩ (.slice pa 0 pc)++bv sm)) (q:=[.int .i64 (sz:Int),.slice na1 L.length nc1]) (r:=[]) (w:=w') (b:=gb) (o:=0) (by rw [List.append_nil,List.cons_append,List.append_assoc];exact hr) 1 _ rfl
     simp only [List.length_cons,List.length_append,hbl,verCs,List.length_nil] at h9
     exact h9)
   clear hw0 hgb HCS0 HRG HOC
   obtain ⟨wD,hwD⟩:∃ x,x=w0.drew:=⟨_,rfl⟩
   have HWD:=zh hwD
   have HM1:=zh (show Mod No wr wD by rw [hwD];exact HM0.out.drew)
   have HMD:=zh (HM.out.trans HM1.out)
   have hS0:wD.heap[gb]? = some (.cells cs.toArray 46 (0,0)):=by rw [hwD];exact ((Mod.refl No w0).drew).keep hga (fun f=>f)
   have hbd:=HBD.out
   have hpl:=congrArg List.length HPT.out
   have hrl:=congrArg List.length HRT.out
   simp only [List.length_append,List.length_cons,List.length_nil] at hbd hpl hrl
   have h5:([112,97,99,107,32]:List UInt8).length=5:=rfl
   obtain ⟨S2,hS2⟩:∃ c,c=[112,97,99,107,32]++nm:=⟨_,rfl⟩
   have hlS2:S2.length=[112,97,99,107,32].length+nm.length:=(congrArg List.length hS2).trans List.length_append
   have HS2:=zh (show [112,97,99,107,32]++nm=S2/\S2.length<=9223372036854775807 from ⟨hS2.symm,by omega⟩)
   obtain ⟨S3,hS3⟩:∃ c,c=S2++[32]:=⟨_,rfl⟩
   have hlS3:S3.length=S2.length+1:=(congrArg List.length hS3).trans List.length_append
   have HS3:=zh (show S2++[32]=S3/\S3.length<=9223372036854775807 from ⟨hS3.symm,by omega⟩)
   obtain ⟨S7,hS7⟩:∃ c,c=S3++VT:=⟨_,rfl⟩
   have hlS7:S7.length=S3.length+VT.length:=(congrArg List.length hS7).trans List.length_append
   have HS7:=zh (show S3++VT=S7/\S7.length<=9223372036854775807 from ⟨hS7.symm,by omega⟩)
   obtain ⟨S8,hS8⟩:∃ c,c=S7++[32]:=⟨_,rfl⟩
   have hlS8:S8.length=S7.length+1:=(congrArg List.length hS8).trans List.length_append
   have HS8:=zh (show S7++[32]=S8/\S8.length<=9223372036854775807 from ⟨hS8.symm,by omega⟩)
   obtain ⟨S12,hS12⟩:∃ c,c=S8++HX:=⟨_,rfl⟩
   have hlS12:S12.length=S8.length+HX.length:=(congrArg List.length hS12).trans List.length_append
   have HS12:=zh (show S8++HX=S12/\S12.length<=9223372036854775807 from ⟨hS12.symm,by omega⟩)
   obtain ⟨S13,hS13⟩:∃ c,c=S12++[32]:=⟨_,rfl⟩
   have hlS13:S13.length=S12.length+1:=(congrArg List.length hS13).trans List.length_append
   have HS13:=zh (show S12++[32]=S13/\S13.length<=9223372036854775807 from ⟨hS13.symm,by omega⟩)
   obtain ⟨S17,hS17⟩:∃ c,c=S13++DT:=⟨_,rfl⟩
   have hlS17:S17.length=S13.length+DT.length:=(congrArg List.length hS17).trans List.length_append
   have HS17:=zh (show S13++DT=S17/\S17.length<=9223372036854775807 from ⟨hS17.symm,by omega⟩)
   obtain ⟨S18,hS18⟩:∃ c,c=S17++[10]:=⟨_,rfl⟩
   have hlS18:S18.length=S17.length+1:=(congrArg List.length hS18).trans List.length_append
   have HS18:=zh (show S17++[10]=S18/\S18.length<=9223372036854775807 from ⟨hS18.symm,by omega⟩)
   have HPK:=zh (show PK=S18 by rw [HPT.out];rw [<- HS18.out.1,<- HS17.out.1,<- HS13.out.1,<- HS12.out.1,<- HS8.out.1,<- HS7.out.1,<- HS3.out.1,<- HS2.out.1];simp)
   have HWS0:=zh (fun W (hm:Mod No wD W)=>ws_any b b TX S18 (by omega) (by omega) W (bld_keep HBL.out (HM1.out.trans hm) (fun f=>f) (fun _ _ _ f=>f.elim)) (by
    have hlt:=HBL.out.elim (fun h=>h.lt) (fun h=>h.lt)
    have:=(HM1.out.trans hm).size
    omega))
   unfold strV at HWS0
   clear hwD hga hbd hpl hrl h5
   clear hS2 hlS2 hS3 hlS3 hS7 hlS7 hS8 hlS8 hS12 hlS12 hS13 hlS13 hS17 hlS17 hS18 hlS18
   refine wp_region_T (fun w':World=>w'.heap[gb]? = some (.cells cs.toArray 46 (0,0))) 99 (by kernel_rfl) ?_
   rw [<- HWD.out]
   refine yT 0 (some 15) ?_ hS0 ?_ ?_
   rotate_left
   ·(intro w' hSw;go_simp;try with_reducible rfl)
   simp only [Act.put,yB,yC,yD]
   refine yT 1 (some 16) ?_ hS0 ?_ ?_
   rotate_left
   ·(intro w' hSw;have q0:=(HSM.out w' hSw).1;go_simp;try with_reducible rfl)
   simp only [Act.put,yB,yC,yD]
   refine yT 2 (some 17) (.string ⟨S2.toArray⟩) hS0 ?_ ?_
   ·(intro w' hSw;apply ycat HS2.out (.const (.string ⟨#[112,97,99,107,32]⟩)) (.tmp 16) <;> rfl)
   simp only [Act.put,yB,yC,yD]
   refine yT 3 (some 18) (.string ⟨S3.toArray⟩) hS0 ?_ ?_
   ·(intro w' hSw;apply ycat HS3.out (.tmp 17) (.const (.string ⟨#[32]⟩)) <;> rfl)
   simp only [Act.put,yB,yC,yD]
   refine yT 4 (some 19) ?_ hS0 ?_ ?_
   rotate_left
   ·(intro w' hSw;go_simp;try with_reducible rfl)
   simp only [Act.put,yB,yC,yD]
   refine yT 5 (some 20) (.agg #[.int .i64 (na:Int),.int .i64 (nb:Int),.int .i64 (nc:Int),.slice pa 0 pc]) hS0 ?_ ?_
   ·(intro w' hSw;apply yloadv (run_loadVar_mid w' gb 1 40 [.int .i64 (na:Int),.int .i64 (nb:Int),.int .i64 (nc:Int),.slice pa 0 pc] _ (HSM.out w' hSw).2.1 underlying40 rfl (by kernel_rfl)) (.tmp 19) <;> rfl)
   simp only [Act.put,yB,yC,yD]
   refine yT 9 (some 24) ?_ hS0 ?_ ?_
   rotate_left
   ·(intro w' hSw;go_simp;try with_reducible rfl)
   simp only [Act.put,yB,yC,yD]
   refine yT 10 (some 25) (keyV sm) hS0 ?_ ?_
   ·(intro w' hSw;apply yloadv (run_loadVar_mid w' gb 5 43 (bv sm) _ (HSM.out w' hSw).2.2.1 underlying43 rfl (by rw [bv_length,HSL.out];kernel_rfl)) (.tmp 24) <;> rfl)
   simp only [Act.put,yB,yC,yD]
   refine yT 14 (some 29) ?_ hS0 ?_ ?_
   rotate_left
   ·(intro w' hSw;go_simp;try with_reducible rfl)
   simp only [Act.put,yB,yC,yD]
   refine yT 15 (some 30) ?_ hS0 ?_ ?_
   rotate_left
   ·(intro w' hSw;have q0:=(HSM.out w' hSw).2.2.2.1;go_simp;try with_reducible rfl)
   simp only [Act.put,yB,yC,yD]
   refine wpAnyT_one 6 rfl (by kernel_rfl) rfl ?_
   intro K hK
   go_simp
   go_at_call 71
   with_reducible refine (HVT0.out wD).mono ?_
   rintro e wE ⟨rfl,hmE⟩
   have HME:=zh hmE
   clear hmE
   show K _ _
   have hS1:=HME.out.keep hS0 (fun f=>f)
   refine hK.out _ _ (fun _=>hS1) ?_
   clear hK K
   refine yT 7 (some 22) (.string ⟨S7.toArray⟩) hS1 ?_ ?_
   ·(intro w' hSw;apply ycat HS7.out (.tmp 18) (.tmp 21) <;> rfl)
   simp only [Act.put,yB,yC,yD]
   refine yT 8 (some 23) (.string ⟨S8.toArray⟩) hS1 ?_ ?_
   ·(intro w' hSw;apply ycat HS8.out (.tmp 22) (.const (.string ⟨#[32]⟩)) <;> rfl)
   simp only [Act.put,yB,yC,yD]
   refine wpAnyT_one 11 rfl (by kernel_rfl) rfl ?_
   intro K hK
   go_simp
   go_at_call 72
   with_reducible refine (HHX0.out wE).mono ?_
   rintro e wF ⟨rfl,hmF⟩
   have HMF:=zh (HME.out.trans hmF)
   clear hmF
   show K _ _
   have hS2:=HMF.out.keep hS0 (fun f=>f)
   refine hK.out _ _ (fun _=>hS2) ?_
   clear hK K
   refine yT 12 (some 27) (.string ⟨S12.toArray⟩) hS2 ?_ ?_
   ·(intro w' hSw;apply ycat HS12.out (.tmp 23) (.tmp 26) <;> rfl)
   simp only [Act.put,yB,yC,yD]
   refine yT 13 (some 28) (.string ⟨S13.toArray⟩) hS2 ?_ ?_
   ·(intro w' hSw;apply ycat HS13.out (.tmp 27) (.const (.string ⟨#[32]⟩)) <;> rfl)
   simp only [Act.put,yB,yC,yD]
   refine wpAnyT_one 16 rfl (by kernel_rfl) rfl ?_
   intro K hK
   go_simp
   go_at_call 73
   with_reducible refine (HDT0.out wF).mono ?_
   rintro e wB ⟨rfl,hB⟩
   rw [hB]
   clear hB wB
   show K _ _
   have hS3:=hS2
   refine hK.out _ _ (fun _=>hS3) ?_
   clear hK K
   refine yT 17 (some 32) (.string ⟨S17.toArray⟩) hS3 ?_ ?_
   ·(intro w' hSw;apply ycat HS17.out (.tmp 28) (.tmp 31) <;> rfl)
   simp only [Act.put,yB,yC,yD]
   refine yT 18 (some 33) (.string ⟨S18.toArray⟩) hS3 ?_ ?_
   ·(intro w' hSw;apply ycat HS18.out (.tmp 32) (.const (.string ⟨#[10]⟩)) <;> rfl)
   simp only [Act.put,yB,yC,yD]
   refine wpAnyT_one 19 rfl (by kernel_rfl) rfl ?_
   intro K hK
   go_simp
   go_at_call 70
   with_reducible refine (HWS0.out wF HMF.out).mono ?_
   rintro e wG ⟨⟨vG,rfl⟩,hbG,hmG⟩
   have HBG:=zh hbG
   have HMG:=zh hmG
   clear hbG hmG
   show K _ _
   have hS4:=HMG.out.keep hS3 (wrt_not hS3 (by decide) HGB.out)
   refine hK.out _ _ (fun _=>hS4) ?_
   clear hK K
   refine wpAnyT_done (by kernel_rfl) ?_ _
   have HG4:=zh hS4
   have HM4:=zh (show Mod No w wG from mod_wrt (HMD.out.trans HMF.out) HMG.out HBW.out)
   have hsz:=HM4.out.size
   have c38:=(HSM.out wG hS4).2.2.2.2
   have HSB:=zh (show IsBld b b (TX++PK) wG by rw [HPK.out];exact HBG.out)
   clear hS0 hS1 hS2 hS3 hS4 HMG HMF HME HBG HVT0 HHX0 HDT0 HWS0
   clear HS2 HS3 HS7 HS8 HS12 HS13 HS17 HS18
   have HCL:=zh (clonends_own L.length (by omega) (.slice na1 L.length nc1) (L.flatMap NdY.cells) (flat_length NdY.len L) (fun u hu=>by
    obtain ⟨z,hz,hu⟩:=List.mem_flatMap.1 hu
    exact NdY.one z u hu) wG (HNS.out.kn HM4.out))
   go_wp2_with fail
   with_reducible refine HCL.out.mono ?_
   rintro e wH ⟨v6,rfl,hown6,hmH⟩
   have HM5:=zh (HM4.out.trans hmH)
   obtain ⟨sa,sc,hv6⟩:=own_len hown6
   subst hv6
   have HSB6:=zh (bld_keep HSB.out hmH (fun f=>f) (fun _ _ _ f=>f.elim))
   have hbG:b < wG.heap.size:=HSB.out.elim (fun h=>h.lt) (fun h=>h.lt)
   have HH:=zh (show ∃ g rest,NdHeap wH sa L g rest/\b < g from by
    by_cases hne:L=[]
    ·exact ⟨b+1,[],.inl hne,by omega⟩
    ·obtain ⟨-,⟨-,h0⟩ | ⟨g,cap,cur,hvv,hbase,hbk,h1,h2,h3,h4⟩⟩:=hown6
     ·exact absurd (List.length_eq_zero_iff.1 h0) hne
     ·have hsa:sa=some ⟨g,0,none⟩:=by cases hvv;rfl
      refine ⟨g,cur.toList.drop (L.length*4),.inr ⟨hsa,?_⟩,by omega⟩
      rw [<- h4,List.take_append_drop,Array.toArray_toList]
      exact hbk)
   obtain ⟨g,rest,hnh,hbg⟩:=HH.out
   have HNH:=zh (sortstable_any L h20 sa g sc rest wH hnh)
   have HBG2:=zh hbg
   have HTY:=zh (show L ≠ []->∃ cur,wH.heap[g]? = some (.cells cur 81 (0,0)) from fun hne=>by
    rcases hnh with h | ⟨_,h⟩
    ·exact absurd h hne
    ·exact ⟨_,h⟩)
   clear hown6 hmH HH hnh hbg HCL hbG c38 HSB
   go_wp2_with fail
   with_reducible refine HNH.out.mono ?_
   rintro e wI ⟨rfl,hnI,hmI⟩
   have HSBI:=zh (bld_keep HSB6.out hmI (fun e=>by have h1:=HBG2.out;have h2:b=g:=e.1;omega) (fun q c fz e hc=>by
    obtain ⟨cur,h⟩:=HTY.out e.2
    rw [e.1,h] at hc
    exact absurd (Obj.cells.inj (Option.some.inj hc)).2.1 (by decide)))
   have HMI:=zh (show Mod No w wI from HM5.out.then hmI (fun i hi e=>by have h1:=HBW.out;have h2:=HBG2.out;have h3:i=g:=e.1;omega))
   have HNI:=zh hnI
   clear hnI hmI HNH HSB6 HTY HM5
   have hML:(sortR (ltOf cfNd) L).length=L.length:=sortR_length _ _
   generalize sortR (ltOf cfNd) L=M at *
   obtain ⟨m,hm⟩:∃ m,m=L.length:=⟨_,rfl⟩
   have hm20:m<=20:=by rw [hm];exact h20
   have HML:=zh (show M.length=m by rw [hML,<- hm])
   rw [<- hm]
   clear hML hm HNS HLN
   obtain ⟨TY,hTY⟩:∃ TY,TY=TX++PK:=⟨_,rfl⟩
   rw [<- hTY] at HSBI
   have HTYE:=zh hTY
   have HBD2:=zh (show TY.length+NT.length<=100000 by
    have h9:=HBD.out
    rw [HRT.out] at h9
    simp only [List.length_append] at h9
    rw [hTY,List.length_append]
    omega)
   clear hTY
   go_wp2_with fail
   go_loopw [42] (fun q42 wi=>∃ j:Nat,j<=m/\q42=.int .i64 (j:Int)/\IsBld b b (TY++(SN.take j).flatMap needT') wi/\NdHeap wi sa M g rest/\Mod No w wi) (fun q _=>m - (intOf q).toNat)
   case atStart=>exact ⟨0,by omega,rfl,by simpa using HSBI.out,HNI.out,HMI.out⟩
   case round =>
    obtain ⟨j,hj,rfl,hbj,hnj,hmj⟩:=hrel
    have hj0:(0:Int)<=(j:Int):=Int.natCast_nonneg _
    have HBJ:=zh hbj
    have HMJ:=zh hmj
    have HNJ0:=zh hnj
    clear hbj hmj hnj
    by_cases hjt:j < m
    ·have hj1:(j:Int) < (m:Int):=by omega
     have hjM:j < M.length:=by rw [HML.out];exact hjt
     have hjn:j < SN.length:=by rw [<- HSE.out,List.length_map];exact hjM
     have HPT2:=zh (show sa=some ⟨g,0,none⟩/\wr.heap[g]? = some (.cells (M.flatMap NdY.cells++rest).toArray 81 (0,0)) from by
      rcases HNJ0.out with h0 | h1
      ·rw [h0] at hjM;exact absurd hjM (by simp)
      ·exact h1)
     obtain ⟨hsa,hgj⟩:=HPT2.out
     subst hsa
     have hML4:(M.flatMap NdY.cells).length=M.length*4:=flat_length NdY.len M
     have HRJ:=zh (show wr.rangeAt g (j*4) (NdY.cells M[j]) from fun i u hu=>by
      have h1:=flat_get NdY.len M hjM hu
      exact cell_ofA hgj (by rw [List.getElem?_toArray,List.getElem?_append_left (List.getElem?_eq_some_iff.1 h1).1,h1]))
     have HNM:=zh (show M[j].n=SN[j] by have:=HSE.out;subst this;simp)
     have HTJ:=zh (show (SN.take (j+1)).flatMap needT'=(SN.take j).flatMap needT'++needT' SN[j] by rw [List.take_succ_eq_append_getElem hjn,List.flatMap_append];simp only [List.flatMap_cons,List.flatMap_nil,List.append_nil])
     have hle:((SN.take (j+1)).flatMap needT').length<=NT.length:=by
      have h1:NT=(SN.take (j+1)).flatMap needT'++(SN.drop (j+1)).flatMap needT':=by rw [HNT.out,<- List.flatMap_append,List.take_append_drop]
      rw [h1,List.length_append];omega
     have HNT2:=zh (show needT' SN[j]=[110,101,101,100,32]++(SN[j].name++([32]++(SN[j].text++[10]))) from rfl)
     rw [HTJ.out,List.length_append] at hle
     have hl2:=congrArg List.length HNT2.out
     simp only [List.length_append,List.length_cons,List.length_nil] at hl2
     have hb2:=HBD2.out
     rw [<- HNM.out] at HNT2 HTJ hle hl2
     have HC4:=zh (NdY.len M[j])
     have HO4:=zh (show (NdY.cells M[j]).toArray.all (·.oneCell')=true from Array.all_eq_true_iff_forall_mem.2 (fun u hu=>NdY.one _ u (by simpa using hu)))
     have HC0:=zh (show NdY.cells M[j]=[strV M[j].n.name,.bool M[j].n.span.any,.slice M[j].oa M[j].om M[j].oc,strV M[j].n.text] from rfl)
     generalize hTZ:TY++(SN.take j).flatMap needT'=TZ at *
     have hzl:TZ.length=TY.length+((SN.take j).flatMap needT').length:=by rw [<- hTZ,List.length_append]
     have HTZ:=zh hTZ
     have HWS:=zh (fun (W:World) (hW:Mod No wr W) (z:ByteArray) (hz:(.string z:Value)=strV (needT' M[j].n))=>show Calls prog 70 #[.pointer (some ⟨b,0,none⟩),.string z] W fun e w'=>(∃ v,e=.returned v)/\IsBld b b (TZ++needT' M[j].n) w'/\Mod (Wrt b b W) W w' by
      rw [hz]
      exact ws_any b b TZ (needT' M[j].n) (by omega) (by omega) W (bld_keep HBJ.out hW (fun f=>f) (fun _ _ _ f=>f.elim)) (by
       have hlt:=HBJ.out.elim (fun h=>h.lt) (fun h=>h.lt)
       have:=hW.size
       omega))
     have hna:M[j].n.name.length<=100000:=by omega
     have hnb:M[j].n.text.length<=100000:=by omega
     clear hle hzl hb2 hTZ hl2 hgj hML4
     obtain ⟨cz,hcz⟩:∃ cz,cz=NdY.cells M[j]:=⟨_,rfl⟩
     rw [<- hcz] at HRJ HC4 HO4 HC0
     clear hcz
     generalize M[j]=z at *
     obtain ⟨⟨NA,⟨za,zo⟩,NB⟩,oa,om,oc⟩:=z
     dsimp only at *
     have HZA:=zh (str_len3 NA)
     have HZB:=zh (str_len3 NB)
     have hza:(⟨NA.toArray⟩:ByteArray).size<=100000:=by rw [HZA.out];exact hna
     have hzb:(⟨NB.toArray⟩:ByteArray).size<=100000:=by rw [HZB.out];exact hnb
     clear hna hnb
     go_upto_region 11 with (first | (refine wpList_load_mid rfl 81 _ rfl g (j*4) rfl cz _ HRJ.out underlying81 rfl (by rw [HC4.out];kernel_rfl) ?_) | (refine wpList_store_row rfl 81 _ _ rfl wr.heap.size cz.toArray rfl rfl 81 _ (heap_alloc_new wr _) (by rw [List.size_toArray,HC4.out];kernel_rfl) (by show _=cz.length;rw [HC4.out];rfl) HO4.out ?_))
     obtain ⟨gn,hgn⟩:∃ g,g=wr.heap.size:=⟨_,rfl⟩
     rw [<- hgn]
     generalize hw3:World.setRow _ gn cz.toArray=w3
     have HM3:=zh (show Mod No wr w3 by rw [<- hw3,hgn];exact ((Mod.refl No wr).alloc _).setRow (fun h=>absurd h (by omega)) _)
     have hgz:w3.heap[gn]? = some (.cells cz.toArray 81 (0,0)):=by rw [<- hw3,hgn];exact setRow_heap _ _ _ _ _ _ (heap_alloc_new wr _)
     have q0:=cell_ofA hgz (i:=0) (v:=strV NA) (by rw [List.getElem?_toArray,HC0.out];rfl)
     have q3:=cell_ofA hgz (i:=3) (v:=strV NB) (by rw [List.getElem?_toArray,HC0.out];rfl)
     have HNJ3:=zh (show w3.heap[g]? = some (.cells (M.flatMap NdY.cells++rest).toArray 81 (0,0)) from HM3.out.keep HPT2.out.2 (fun f=>f))
     have HZC:=zh (show strV (needT' ⟨NA,⟨za,zo⟩,NB⟩)=.string ((((⟨#[110,101,101,100,32]⟩++(⟨NA.toArray⟩:ByteArray)) ++ ⟨#[32]⟩)++(⟨NB.toArray⟩:ByteArray)) ++ ⟨#[10]⟩) from by
      rw [HNT2.out]
      have e1:(⟨#[110,101,101,100,32]⟩:ByteArray)=⟨([110,101,101,100,32]:List UInt8).toArray⟩:=rfl
      have e2:(⟨#[32]⟩:ByteArray)=⟨([32]:List UInt8).toArray⟩:=rfl
      have e3:(⟨#[10]⟩:ByteArray)=⟨([10]:List UInt8).toArray⟩:=rfl
      unfold strV
      rw [e1,e2,e3,str_app,str_app,str_app,str_app]
      simp)
     unfold strV at q0 q3
     clear hw3 hgn hgz HC0 HRJ HO4 HC4
     generalize (⟨NA.toArray⟩:ByteArray)=ZA at *
     generalize (⟨NB.toArray⟩:ByteArray)=ZB at *
     go_wp2_with fail
     with_reducible refine (HWS.out _ HM3.out _ HZC.out.symm).mono ?_
     rintro e wX ⟨⟨vX,rfl⟩,hbX,hmX⟩
     have HBX:=zh (show IsBld b b (TY++(SN.take (j+1)).flatMap needT') wX by rw [HTJ.out,<- List.append_assoc,HTZ.out];exact hbX)
     have HNX:=zh (show NdHeap wX (some ⟨g,0,none⟩) M g rest from .inr ⟨rfl,hmX.keep HNJ3.out (wrt_not HNJ3.out (by decide) (by have:=HBG2.out;omega))⟩)
     have HMX:=zh (mod_wrt (HMJ.out.trans HM3.out) hmX HBW.out)
     clear hbX hmX
     go_wp2_with fail
     exact ⟨⟨j+1,by omega,rfl,HBX.out,HNX.out,HMX.out⟩,by show m - ((j:Int)+1).toNat < m - (j:Int).toNat;omega⟩
    ·obtain rfl:j=m:=by omega
     have hj1:¬ ((j:Int) < (j:Int)):=by omega
     have HFX:=zh (show TY++(SN.take j).flatMap needT'=indexT (l.take (k+1)) by
      rw [HTK.out,HRT.out,HTYE.out,HNT.out,List.append_assoc]
      have h1:SN.length=j:=by rw [<- HSE.out,List.length_map,HML.out]
      rw [<- h1,List.take_length])
     go_wp2_with fail
     exact ⟨⟨k+1,by omega,rfl,by rw [<- HFX.out];exact HBJ.out,HMJ.out⟩,by show n - ((k:Int)+1).toNat < n - (k:Int).toNat;omega⟩
  ·obtain rfl:k=n:=by omega
   have hk1:¬ ((k:Int) < (k:Int)):=by omega
   have HST:=zh (show Calls prog 74 #[.pointer (some ⟨b,0,none⟩)] wr fun e w'=>e=.returned (strV (indexT l))/\Mod No w w' from by
    have h1:=HBL.out
    rw [HFI.out] at h1
    have hsz:=HM.out.size
    have hlt:=h1.elim (fun h=>h.lt) (fun h=>h.lt)
    have e:bv (indexT l)=Lib.byteCells (indexT l):=byte_bv _
    unfold IsBld at h1
    rw [e] at h1
    refine (Tryz.Builder_String_any b b (indexT l) wr h1 (by omega)).mono fun e w' ⟨he,hbe⟩=>⟨he,?_⟩
    have hbw:=HBW.out
    exact ⟨hbe.os.trans HM.out.os,hbe.tape.trans HM.out.tape,hbe.output.trans HM.out.output,Nat.le_trans HM.out.size hbe.size,fun i hi _=>(hbe.block i (by omega)).trans (HM.out.block i hi (fun f=>f))⟩)
   go_wp2_with fail
   with_reducible refine HST.out.mono ?_
   rintro e w9 ⟨rfl,hm9⟩
   have HM9:=zh hm9
   clear hm9 HST
   go_wp2_with fail
   exact fin hR ⟨rfl,HM9.out⟩
end Go.Proofs.YtgiigemfbebcgaaGreatDoor
