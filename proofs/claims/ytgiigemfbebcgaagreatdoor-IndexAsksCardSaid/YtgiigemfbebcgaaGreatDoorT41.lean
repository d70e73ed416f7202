/-
  Layers 0 to 14: helps of the laws of indexes. No statement is proved here; no condition.
-/
import Derived.Test.YtgiigemfbebcgaaGreatDoorT34
import Derived.Test.YtgiigemfbebcgaaGreatDoorT37
import Derived.Test.YtgiigemfbebcgaaGreatDoorT14
import Derived.Test.YtgiigemfbebcgaaGreatDoorT40
import Derived.Test.YtgiigemfbebcgaaGreatDoorT07
namespace Go.Proofs.YtgiigemfbebcgaaGreatDoor
open _root_.Go.Proofs.Tryz
open Go.RowKit
structure RwSm (r:Rw):Prop where
 ver:r.v.ma < 1000000000000000000/\r.v.mi < 1000000000000000000/\r.v.pa < 1000000000000000000
 size:r.size < 1000000000000000000
set_option maxRecDepth 100000 in
set_option maxHeartbeats 16000000 in
theorem ixtext_any (xs:List RwX) (hx:xs.length<=1000000) (rv:Value) (w:World) (hok:∀ x ∈ xs,RwAt w x/\RwSm x.r) (hrv:Sl w No 46 rv xs.length (xs.flatMap RwX.cells)) (hlen:(indexT (xs.map RwX.r)).length<=1000000000000) :
  Calls prog 30 #[rv] w fun e w'=>e=.returned (strV (indexT (xs.map RwX.r)))/\Mod No w w':=by
 refine calls_hide fun R hR=>?_
 obtain ⟨ra,rc,rfl⟩:=hrv.len
 have HOK:=zh hok
 have HRV:=zh hrv
 obtain ⟨l,hl⟩:∃ l,l=xs.map RwX.r:=⟨_,rfl⟩
 rw [<- hl] at hlen hR
 have HLL:=zh (show l.length=xs.length by rw [hl];simp)
 have HGX:=zh (show ∀ k (hk:k < xs.length),l[k]'(by rw [HLL.out];exact hk)=xs[k].r from fun k hk=>by simp [hl])
 have HLEN:=zh (show ∀ k,(indexT (l.take k)).length<=(indexT l).length from fun k=>by
  conv=>rhs;rw [<- List.take_append_drop k l]
  unfold indexT
  rw [List.flatMap_append,List.length_append]
  omega)
 have HLE:=zh hlen
 have HFI:=zh (show l.take xs.length=l by rw [<- HLL.out];exact List.take_length)
 clear hok hrv hl hlen
 obtain ⟨n,hn⟩:∃ n,n=xs.length:=⟨_,rfl⟩
 have HNX:=zh hn
 rw [<- hn] at HRV hx HFI
 rw [<- hn]
 clear hn
 go_enter func30,ntmps30
 go_wp2_with fail
 go_loopw [3,4] (fun q3 q4 wr=>∃ k:Nat,k<=n/\q4=.int .i64 (k:Int)/\q3=strV (indexT (l.take k))/\Mod No w wr) (fun _ q _=>n - (intOf q).toNat)
 case atStart=>exact ⟨0,by omega,rfl,rfl,Mod.refl _ _⟩
 case round =>
  obtain ⟨k,hk,rfl,rfl,hm⟩:=hrel
  have HM:=zh hm
  have hk0:(0:Int)<=(k:Int):=Int.natCast_nonneg _
  clear hm
  by_cases hlt:k < n
  ·have hk1:(k:Int) < (n:Int):=by omega
   have hlt2:k < xs.length:=by rw [<- HNX.out];exact hlt
   obtain ⟨b,o,c,hvs,_⟩:=HRV.out.shape (by omega)
   cases hvs
   have HRG:=zh (HM.out.rangeAt (Sl.atM (fun x hx=>RwX.cells_length x (HOK.out x hx).1.ok.sum) HRV.out hlt2) (fun f=>f))
   have HXK:=zh ((HOK.out _ (List.getElem_mem hlt2)).1.keep HM.out (Apart.no _ _))
   have HSK:=zh (HOK.out _ (List.getElem_mem hlt2)).2
   have HTK:=zh (show indexT (l.take (k+1))=indexT (l.take k)++rowT xs[k].r by
    rw [List.take_succ_eq_append_getElem (by rw [HLL.out];exact hlt2),HGX.out k hlt2]
    unfold indexT
    simp)
   have HBD:=zh (show (indexT (l.take k)++rowT xs[k].r).length<=1000000000000 by rw [<- HTK.out];exact Nat.le_trans (HLEN.out (k+1)) HLE.out)
   clear HGX HLEN HLE
   generalize xs[k]=y at *
   generalize indexT (l.take k)=TX at *
   obtain ⟨ys,hy1,hy2,hy3,-,-⟩:=nds_one HXK.out.nds
   have HSO:=zh (fun W (hm:Mod No wr W)=>sorted_any ys (by rw [<- List.length_map (f:=NdX.n),hy1];exact HXK.out.few) y.nv W (by rw [show ys.length=y.r.needs.length by rw [<- hy1,List.length_map]];exact hy3.kn hm) (fun z hz=>by
    obtain ⟨zs,-,-,hz3⟩:=hy2 z hz
    obtain ⟨a1,a2,e⟩:=hz3.len
    exact ⟨a1,_,a2,e⟩))
   have HSE:=zh (show (sortR ltNx ys).map NdX.n=sortR ltNd y.r.needs by rw [<- hy1];exact sortR_map NdX.n ltNd ys)
   have HSN0:=zh (show ∀ w',Mod No wr w'->w'.cell? ⟨b,o+k*39+38,none⟩=some y.nv from fun w' h=>h.cell (HRG.out 38 _ (by rw [<- List.getElem?_toArray];exact (by rw [List.getElem?_toArray];exact rows_get38' HXK.out.ok.sum))) (fun f=>f))
   obtain ⟨na,nc,hnv⟩:=hy3.len
   obtain ⟨pa,pc,hpe⟩:=HXK.out.ok.pre.len
   have HVX0:=zh (fun W (hm:Mod No wr W)=>vtext_any y.r.v y.pv HXK.out.ok.small HSK.out.ver W (HXK.out.ok.pre.kn hm))
   have HHX0:=zh (refhex_any y.r.sum HXK.out.ok.sum)
   have HDX0:=zh (dec_any y.r.size HSK.out.size)
   have HPT:=zh (show packT' y.r=[112,97,99,107]++32 :: (y.r.name++32 :: (verT y.r.v++32 :: (hexL y.r.sum++32 :: (decT y.r.size.toNat++[10])))) from rfl)
   have HRT:=zh (show rowT y.r=packT' y.r++(sortR ltNd y.r.needs).flatMap needT' from rfl)
   have HSL:=zh HXK.out.ok.sum
   have HCS:=zh (show RwX.cells y=strV y.r.name :: (verCs y.r.v y.pv++(bv y.r.sum++[.int .i64 y.r.size,y.nv])) from rfl)
   obtain ⟨cs,hcs⟩:∃ cs,cs=RwX.cells y:=⟨_,rfl⟩
   rw [<- hcs] at HRG HCS
   have hm6:y.r.needs.length<=1000000:=HXK.out.few
   have hyl:y.r.needs.length=ys.length:=by rw [<- hy1,List.length_map]
   clear hcs hy1 hy2 hy3 HXK HSK
   have HML:=zh (show y.r.needs.length=ys.length from hyl)
   generalize hPK:packT' y.r=PK at *
   generalize hRT:rowT y.r=RT at *
   obtain ⟨SN,hSN⟩:∃ SN,SN=sortR ltNd y.r.needs:=⟨_,rfl⟩
   rw [<- hSN] at HRT HSE
   obtain ⟨NT,hNT⟩:∃ NT,NT=SN.flatMap needT':=⟨_,rfl⟩
   rw [<- hNT] at HRT
   have HNT:=zh hNT
   clear hPK hRT hSN hNT hyl
   obtain ⟨⟨nm,⟨xa,xi,xp,xpr⟩,sm,sz,nds⟩,ypv,ynv⟩:=y
   dsimp only at *
   subst hpe
   subst hnv
   obtain ⟨m,hm⟩:∃ m,m=nds.length:=⟨_,rfl⟩
   rw [<- hm] at HML HSN0 HSO HCS hm6
   obtain ⟨pn,hpn⟩:∃ n,n=xpr.length:=⟨_,rfl⟩
   rw [<- hpn] at HVX0 HCS
   clear hm hpn
   have HPL:=zh (show TX.length+PK.length<=1000000000000 by
    have:=HBD.out
    rw [HRT.out,List.length_append,List.length_append] at this
    omega)
   have hpl:=HPL.out
   rw [HPT.out] at hpl
   simp only [List.length_append,List.length_cons,List.length_nil] at hpl
   unfold verCs at HCS
   dsimp only at HCS
   generalize verT ⟨xa,xi,xp,xpr⟩=VT at *
   generalize hexL sm=HX at *
   generalize decT sz.toNat=DT at *
   obtain ⟨S1,hS1⟩:∃ c,c=TX++[112,97,99,107,32]:=⟨_,rfl⟩
   have hlS1:S1.length=TX.length+5:=(congrArg List.length hS1).trans List.length_append
   have HS1:=zh (show TX++[112,97,99,107,32]=S1/\S1.length<=9223372036854775807 from ⟨hS1.symm,by omega⟩)
   obtain ⟨S7,hS7⟩:∃ c,c=S1++nm:=⟨_,rfl⟩
   have hlS7:S7.length=S1.length+nm.length:=(congrArg List.length hS7).trans List.length_append
   have HS7:=zh (show S1++nm=S7/\S7.length<=9223372036854775807 from ⟨hS7.symm,by omega⟩)
   obtain ⟨S8,hS8⟩:∃ c,c=S7++[32]:=⟨_,rfl⟩
   have hlS8:S8.length=S7.length+1:=(congrArg List.length hS8).trans List.length_append
   have HS8:=zh (show S7++[32]=S8/\S8.length<=9223372036854775807 from ⟨hS8.symm,by omega⟩)
   obtain ⟨S15,hS15⟩:∃ c,c=S8++VT:=⟨_,rfl⟩
   have hlS15:S15.length=S8.length+VT.length:=(congrArg List.length hS15).trans List.length_append
   have HS15:=zh (show S8++VT=S15/\S15.length<=9223372036854775807 from ⟨hS15.symm,by omega⟩)
   obtain ⟨S16,hS16⟩:∃ c,c=S15++[32]:=⟨_,rfl⟩
   have hlS16:S16.length=S15.length+1:=(congrArg List.length hS16).trans List.length_append
   have HS16:=zh (show S15++[32]=S16/\S16.length<=9223372036854775807 from ⟨hS16.symm,by omega⟩)
   obtain ⟨S23,hS23⟩:∃ c,c=S16++HX:=⟨_,rfl⟩
   have hlS23:S23.length=S16.length+HX.length:=(congrArg List.length hS23).trans List.length_append
   have HS23:=zh (show S16++HX=S23/\S23.length<=9223372036854775807 from ⟨hS23.symm,by omega⟩)
   obtain ⟨S24,hS24⟩:∃ c,c=S23++[32]:=⟨_,rfl⟩
   have hlS24:S24.length=S23.length+1:=(congrArg List.length hS24).trans List.length_append
   have HS24:=zh (show S23++[32]=S24/\S24.length<=9223372036854775807 from ⟨hS24.symm,by omega⟩)
   obtain ⟨S31,hS31⟩:∃ c,c=S24++DT:=⟨_,rfl⟩
   have hlS31:S31.length=S24.length+DT.length:=(congrArg List.length hS31).trans List.length_append
   have HS31:=zh (show S24++DT=S31/\S31.length<=9223372036854775807 from ⟨hS31.symm,by omega⟩)
   obtain ⟨S32,hS32⟩:∃ c,c=S31++[10]:=⟨_,rfl⟩
   have hlS32:S32.length=S31.length+1:=(congrArg List.length hS32).trans List.length_append
   have HS32:=zh (show S31++[10]=S32/\S32.length<=9223372036854775807 from ⟨hS32.symm,by omega⟩)
   clear hS1 hlS1 hS7 hlS7 hS8 hlS8 hS15 hlS15 hS16 hlS16 hS23 hlS23 hS24 hlS24 hS31 hlS31 hS32 hlS32
   clear hpl
   go_upto_region 5 with fail
   obtain ⟨wD,hwD⟩:∃ z,z=wr.drew:=⟨_,rfl⟩
   have hmD:Mod No wr wD:=by rw [hwD];exact (Mod.refl No wr).drew
   have HMD:=zh hmD
   have HSM:=zh (show (∀ w',Mod No wD w'->w'.cell? ⟨b,o+k*39,none⟩=some (strV nm))/\(∀ w',Mod No wD w'->w'.rangeAt b (o+k*39+1) [.int .i64 xa,.int .i64 xi,.int .i64 xp,.slice pa pn pc])/\(∀ w',Mod No wD w'->w'.rangeAt b (o+k*39+5) (bv sm))/\(∀ w',Mod No wD w'->w'.cell? ⟨b,o+k*39+37,none⟩=some (.int .i64 sz)) from
    ⟨fun w' h=>(hmD.trans h).cell (HRG.out 0 _ (by rw [HCS.out];rfl)) (fun f=>f),
     fun w' h=>(hmD.trans h).rangeAt (rangeAt_part (p:=[strV nm]) (q:=[.int .i64 xa,.int .i64 xi,.int .i64 xp,.slice pa pn pc]) (r:=bv sm++[.int .i64 sz,.slice na m nc]) (by have h9:=HRG.out;rw [HCS.out] at h9;simpa using h9)) (fun f=>f),
     fun w' h=>(hmD.trans h).rangeAt (rangeAt_part (p:=[strV nm,.int .i64 xa,.int .i64 xi,.int .i64 xp,.slice pa pn pc]) (q:=bv sm) (r:=[.int .i64 sz,.slice na m nc]) (by have h9:=HRG.out;rw [HCS.out] at h9;simpa using h9)) (fun f=>f),
     fun w' h=>(hmD.trans h).cell (by have h9:=rangeAt_part (p:=[strV nm,.int .i64 xa,.int .i64 xi,.int .i64 xp,.slice pa pn pc]++bv sm) (q:=[.int .i64 sz]) (r:=[.slice na m nc]) (w:=wr) (b:=b) (o:=o+k*39) (by have h9:=HRG.out;rw [HCS.out] at h9;simpa using h9);have h8:=h9 0 _ rfl;rw [List.length_append,bv_length,HSL.out] at h8;exact h8) (fun f=>f)⟩)
   have HWA:=zh hwD
   have hS0:=Mod.refl No wD
   clear hwD hmD HRG HCS
   refine wp_region_T (fun w'=>Mod No wD w') 99 (by kernel_rfl) ?_
   rw [<- HWA.out]
   clear HWA
   refine yT 0 (some 13) ?_ hS0 ?_ ?_
   rotate_left
   ·(intro w' hSw;go_simp;try with_reducible rfl)
   simp only [Act.put,yB,yC,yD]
   refine yT 1 (some 14) (.string ⟨S1.toArray⟩) hS0 ?_ ?_
   ·(intro w' hSw;apply ycat HS1.out (.tmp 13) (.const (.string ⟨#[112,97,99,107,32]⟩)) <;> rfl)
   simp only [Act.put,yB,yC,yD]
   refine yT 2 (some 15) ?_ hS0 ?_ ?_
   rotate_left
   ·(intro w' hSw;go_simp;try with_reducible rfl)
   simp only [Act.put,yB,yC,yD]
   refine yT 3 (some 16) ?_ hS0 ?_ ?_
   rotate_left
   ·(intro w' hSw;go_simp;try with_reducible rfl)
   simp only [Act.put,yB,yC,yD]
   refine yT 4 (some 17) ?_ hS0 ?_ ?_
   rotate_left
   ·(intro w' hSw;go_simp;try with_reducible rfl)
   simp only [Act.put,yB,yC,yD]
   refine yT 5 (some 18) ?_ hS0 ?_ ?_
   rotate_left
   ·(intro w' hSw;go_simp;try with_reducible rfl)
   simp only [Act.put,yB,yC,yD]
   refine yT 6 (some 19) ?_ hS0 ?_ ?_
   rotate_left
   ·(intro w' hSw;have q0:=HSM.out.1 w' hSw;go_simp;try with_reducible rfl)
   simp only [Act.put,yB,yC,yD]
   refine yT 7 (some 20) (.string ⟨S7.toArray⟩) hS0 ?_ ?_
   ·(intro w' hSw;apply ycat HS7.out (.tmp 14) (.tmp 19) <;> rfl)
   simp only [Act.put,yB,yC,yD]
   refine yT 8 (some 21) (.string ⟨S8.toArray⟩) hS0 ?_ ?_
   ·(intro w' hSw;apply ycat HS8.out (.tmp 20) (.const (.string ⟨#[32]⟩)) <;> rfl)
   simp only [Act.put,yB,yC,yD]
   refine yT 9 (some 22) ?_ hS0 ?_ ?_
   rotate_left
   ·(intro w' hSw;go_simp;try with_reducible rfl)
   simp only [Act.put,yB,yC,yD]
   refine yT 10 (some 23) ?_ hS0 ?_ ?_
   rotate_left
   ·(intro w' hSw;go_simp;try with_reducible rfl)
   simp only [Act.put,yB,yC,yD]
   refine yT 11 (some 24) ?_ hS0 ?_ ?_
   rotate_left
   ·(intro w' hSw;go_simp;try with_reducible rfl)
   simp only [Act.put,yB,yC,yD]
   refine yT 12 (some 25) ?_ hS0 ?_ ?_
   rotate_left
   ·(intro w' hSw;go_simp;try with_reducible rfl)
   simp only [Act.put,yB,yC,yD]
   refine yT 13 (some 26) (verV ⟨xa,xi,xp,xpr⟩ (.slice pa pn pc)) hS0 ?_ ?_
   ·(intro w' hSw;apply yloadv (run_loadVar_mid w' b (o+k*39+1) 40 [.int .i64 xa,.int .i64 xi,.int .i64 xp,.slice pa pn pc] _ (HSM.out.2.1 w' hSw) underlying40 rfl (by kernel_rfl)) (.tmp 25) <;> rfl)
   simp only [Act.put,yB,yC,yD]
   refine yT 17 (some 30) ?_ hS0 ?_ ?_
   rotate_left
   ·(intro w' hSw;go_simp;try with_reducible rfl)
   simp only [Act.put,yB,yC,yD]
   refine yT 18 (some 31) ?_ hS0 ?_ ?_
   rotate_left
   ·(intro w' hSw;go_simp;try with_reducible rfl)
   simp only [Act.put,yB,yC,yD]
   refine yT 19 (some 32) ?_ hS0 ?_ ?_
   rotate_left
   ·(intro w' hSw;go_simp;try with_reducible rfl)
   simp only [Act.put,yB,yC,yD]
   refine yT 20 (some 33) ?_ hS0 ?_ ?_
   rotate_left
   ·(intro w' hSw;go_simp;try with_reducible rfl)
   simp only [Act.put,yB,yC,yD]
   refine yT 21 (some 34) (keyV sm) hS0 ?_ ?_
   ·(intro w' hSw;apply yloadv (run_loadVar_mid w' b (o+k*39+5) 43 (bv sm) _ (HSM.out.2.2.1 w' hSw) underlying43 rfl (by rw [bv_length,HSL.out];kernel_rfl)) (.tmp 33) <;> rfl)
   simp only [Act.put,yB,yC,yD]
   refine yT 25 (some 38) ?_ hS0 ?_ ?_
   rotate_left
   ·(intro w' hSw;go_simp;try with_reducible rfl)
   simp only [Act.put,yB,yC,yD]
   refine yT 26 (some 39) ?_ hS0 ?_ ?_
   rotate_left
   ·(intro w' hSw;go_simp;try with_reducible rfl)
   simp only [Act.put,yB,yC,yD]
   refine yT 27 (some 40) ?_ hS0 ?_ ?_
   rotate_left
   ·(intro w' hSw;go_simp;try with_reducible rfl)
   simp only [Act.put,yB,yC,yD]
   refine yT 28 (some 41) ?_ hS0 ?_ ?_
   rotate_left
   ·(intro w' hSw;go_simp;try with_reducible rfl)
   simp only [Act.put,yB,yC,yD]
   refine yT 29 (some 42) ?_ hS0 ?_ ?_
   rotate_left
   ·(intro w' hSw;have q0:=HSM.out.2.2.2 w' hSw;go_simp;try with_reducible rfl)
   simp only [Act.put,yB,yC,yD]
   refine wpAnyT_one 14 rfl (by kernel_rfl) rfl ?_
   intro K hK
   go_simp
   go_at_call 63
   with_reducible refine (HVX0.out wD HMD.out).mono ?_
   rintro e wE ⟨rfl,hwE⟩
   have HMwE:=zh (hS0.trans hwE)
   clear hwE
   show K _ _
   have hS1:=HMwE.out
   refine hK.out _ _ (fun _=>hS1) ?_
   clear hK K
   refine yT 15 (some 28) (.string ⟨S15.toArray⟩) hS1 ?_ ?_
   ·(intro w' hSw;apply ycat HS15.out (.tmp 21) (.tmp 27) <;> rfl)
   simp only [Act.put,yB,yC,yD]
   refine yT 16 (some 29) (.string ⟨S16.toArray⟩) hS1 ?_ ?_
   ·(intro w' hSw;apply ycat HS16.out (.tmp 28) (.const (.string ⟨#[32]⟩)) <;> rfl)
   simp only [Act.put,yB,yC,yD]
   refine wpAnyT_one 22 rfl (by kernel_rfl) rfl ?_
   intro K hK
   go_simp
   go_at_call 64
   with_reducible refine (HHX0.out _).mono ?_
   rintro e wF ⟨rfl,hwF⟩
   have HMwF:=zh (hS1.trans hwF)
   clear hwF
   show K _ _
   have hS2:=HMwF.out
   refine hK.out _ _ (fun _=>hS2) ?_
   clear hK K
   refine yT 23 (some 36) (.string ⟨S23.toArray⟩) hS2 ?_ ?_
   ·(intro w' hSw;apply ycat HS23.out (.tmp 29) (.tmp 35) <;> rfl)
   simp only [Act.put,yB,yC,yD]
   refine yT 24 (some 37) (.string ⟨S24.toArray⟩) hS2 ?_ ?_
   ·(intro w' hSw;apply ycat HS24.out (.tmp 36) (.const (.string ⟨#[32]⟩)) <;> rfl)
   simp only [Act.put,yB,yC,yD]
   refine wpAnyT_one 30 rfl (by kernel_rfl) rfl ?_
   intro K hK
   go_simp
   go_at_call 27
   with_reducible refine (HDX0.out _).mono ?_
   rintro e wG ⟨rfl,hwG⟩
   have HMwG:=zh (hS2.trans hwG)
   clear hwG
   show K _ _
   have hS3:=HMwG.out
   refine hK.out _ _ (fun _=>hS3) ?_
   clear hK K
   refine yT 31 (some 44) (.string ⟨S31.toArray⟩) hS3 ?_ ?_
   ·(intro w' hSw;apply ycat HS31.out (.tmp 37) (.tmp 43) <;> rfl)
   simp only [Act.put,yB,yC,yD]
   refine yT 32 (some 45) (.string ⟨S32.toArray⟩) hS3 ?_ ?_
   ·(intro w' hSw;apply ycat HS32.out (.tmp 44) (.const (.string ⟨#[10]⟩)) <;> rfl)
   simp only [Act.put,yB,yC,yD]
   refine yT 33 (some 3) ?_ hS3 ?_ ?_
   rotate_left
   ·(intro w' hSw;go_simp;try with_reducible rfl)
   simp only [Act.put]
   refine wpAnyT_done (by kernel_rfl) ?_ _
   have HMG:=zh (HMD.out.trans hS3)
   clear hS0 hS1 hS2 hS3
   have HPK:=zh (show S32=TX++PK by rw [HPT.out];rw [<- HS32.out.1,<- HS31.out.1,<- HS24.out.1,<- HS23.out.1,<- HS16.out.1,<- HS15.out.1,<- HS8.out.1,<- HS7.out.1,<- HS1.out.1];simp)
   have HTY:=zh (show S32.length+NT.length<=1000000000000 by rw [HPK.out,<- List.length_append,List.append_assoc,<- HRT.out];exact HBD.out)
   clear HS1 HS7 HS8 HS15 HS16 HS23 HS24 HS31 HS32 HVX0 HHX0 HDX0 HSM HBD
   generalize S32=TY at *
   have c38:=HSN0.out wG HMG.out
   go_wp2_with fail
   with_reducible refine (HSO.out wG HMG.out).mono ?_
   rintro e wH ⟨v5,rfl,hown5,hmH⟩
   rw [<- HML.out] at hown5
   have HMH:=zh (HM.out.trans (HMG.out.trans hmH))
   have HO5:=zh hown5
   obtain ⟨a5,c5,hv5⟩:=own_len hown5
   subst hv5
   clear hown5 hmH c38 HSO HSN0
   go_wp2_with fail
   go_loopw [3,6] (fun q3 q6 wi=>∃ j:Nat,j<=m/\q6=.int .i64 (j:Int)/\q3=strV (TY++(SN.take j).flatMap needT')/\Mod No wH wi) (fun _ q _=>m - (intOf q).toNat)
   case atStart=>exact ⟨0,by omega,rfl,by simp [strV],Mod.refl _ _⟩
   case round =>
    obtain ⟨j,hj,rfl,rfl,hmi⟩:=hrel
    have HMI:=zh hmi
    have hj0:(0:Int)<=(j:Int):=Int.natCast_nonneg _
    clear hmi
    by_cases hjt:j < m
    ·have hj1:(j:Int) < (m:Int):=by omega
     have hjs:j < (sortR ltNx ys).length:=by rw [sortR_length];rw [<- HML.out];exact hjt
     obtain ⟨g5,c6,hvs,_⟩:=own_shape HO5.out (by omega)
     cases hvs
     have HR5:=zh (HMI.out.rangeAt (Sl.at NdX.cells_length (Sl.of_own (X:=No) HO5.out (fun _ _ f=>f)) hjs) (fun f=>f))
     have hjn:j < SN.length:=by rw [<- HSE.out,List.length_map];exact hjs
     have HNJ:=zh (show (sortR ltNx ys)[j].n=SN[j] by have:=HSE.out;subst this;simp)
     have HNT2:=zh (show needT' SN[j]=[110,101,101,100]++32 :: (SN[j].name++32 :: (SN[j].text++[10])) from rfl)
     have HTJ:=zh (show (SN.take (j+1)).flatMap needT'=(SN.take j).flatMap needT'++needT' SN[j] by rw [List.take_succ_eq_append_getElem hjn,List.flatMap_append];simp only [List.flatMap_cons,List.flatMap_nil,List.append_nil])
     have hle:((SN.take (j+1)).flatMap needT').length<=NT.length:=by
      have h1:NT=(SN.take (j+1)).flatMap needT'++(SN.drop (j+1)).flatMap needT':=by rw [HNT.out,<- List.flatMap_append,List.take_append_drop]
      rw [h1,List.length_append];omega
     rw [HTJ.out,HNT2.out] at hle
     simp only [List.length_append,List.length_cons,List.length_nil] at hle
     have hty:=HTY.out
     generalize hTZ:TY++(SN.take j).flatMap needT'=TZ at *
     have hzl:TZ.length=TY.length+((SN.take j).flatMap needT').length:=by rw [<- hTZ,List.length_append]
     have HTZ:=zh hTZ
     have hq0:=HR5.out 0 (strV SN[j].name) (by rw [<- HNJ.out];rfl)
     have hq3:=HR5.out 3 (strV SN[j].text) (by rw [<- HNJ.out];rfl)
     rw [Nat.add_zero,Nat.zero_add] at hq0
     rw [Nat.zero_add] at hq3
     have HNA:=zh (And.intro hq0 hq3)
     clear hq0 hq3 hTZ HR5
     generalize SN[j].name=NA at *
     generalize SN[j].text=NB at *
     obtain ⟨U1,hU1⟩:∃ c,c=TZ++[110,101,101,100,32]:=⟨_,rfl⟩
     have hlU1:U1.length=TZ.length+5:=(congrArg List.length hU1).trans List.length_append
     have HU1:=zh (show TZ++[110,101,101,100,32]=U1/\U1.length<=9223372036854775807 from ⟨hU1.symm,by omega⟩)
     obtain ⟨U7,hU7⟩:∃ c,c=U1++NA:=⟨_,rfl⟩
     have hlU7:U7.length=U1.length+NA.length:=(congrArg List.length hU7).trans List.length_append
     have HU7:=zh (show U1++NA=U7/\U7.length<=9223372036854775807 from ⟨hU7.symm,by omega⟩)
     obtain ⟨U8,hU8⟩:∃ c,c=U7++[32]:=⟨_,rfl⟩
     have hlU8:U8.length=U7.length+1:=(congrArg List.length hU8).trans List.length_append
     have HU8:=zh (show U7++[32]=U8/\U8.length<=9223372036854775807 from ⟨hU8.symm,by omega⟩)
     obtain ⟨U14,hU14⟩:∃ c,c=U8++NB:=⟨_,rfl⟩
     have hlU14:U14.length=U8.length+NB.length:=(congrArg List.length hU14).trans List.length_append
     have HU14:=zh (show U8++NB=U14/\U14.length<=9223372036854775807 from ⟨hU14.symm,by omega⟩)
     obtain ⟨U15,hU15⟩:∃ c,c=U14++[10]:=⟨_,rfl⟩
     have hlU15:U15.length=U14.length+1:=(congrArg List.length hU15).trans List.length_append
     have HU15:=zh (show U14++[10]=U15/\U15.length<=9223372036854775807 from ⟨hU15.symm,by omega⟩)
     clear hU1 hlU1 hU7 hlU7 hU8 hlU8 hU14 hlU14 hU15 hlU15
     clear hle hty hzl
     go_upto_region 10 with fail
     obtain ⟨wJ,hwJ⟩:∃ z,z=wr.drew:=⟨_,rfl⟩
     have HMJ:=zh (show Mod No wH wJ by rw [hwJ];exact HMI.out.drew)
     have HSM2:=zh (show ∀ w',Mod No wJ w'->w'.cell? ⟨g5,j*4,none⟩=some (strV NA)/\w'.cell? ⟨g5,j*4+3,none⟩=some (strV NB) from fun w' h=>by
      have hx:Mod No wr w':=by rw [hwJ] at h;exact ((Mod.refl No wr).drew).trans h
      exact ⟨hx.cell HNA.out.1 (fun f=>f),hx.cell HNA.out.2 (fun f=>f)⟩)
     have HWJ:=zh hwJ
     have hS0:=Mod.refl No wJ
     clear hwJ
     refine wp_region_T (fun w'=>Mod No wJ w') 99 (by kernel_rfl) ?_
     rw [<- HWJ.out]
     refine yT 0 (some 58) ?_ hS0 ?_ ?_
     rotate_left
     ·(intro w' hSw;go_simp;try with_reducible rfl)
     simp only [Act.put,yB,yC,yD]
     refine yT 1 (some 59) (.string ⟨U1.toArray⟩) hS0 ?_ ?_
     ·(intro w' hSw;apply ycat HU1.out (.tmp 58) (.const (.string ⟨#[110,101,101,100,32]⟩)) <;> rfl)
     simp only [Act.put,yB,yC,yD]
     refine yT 2 (some 60) ?_ hS0 ?_ ?_
     rotate_left
     ·(intro w' hSw;go_simp;try with_reducible rfl)
     simp only [Act.put,yB,yC,yD]
     refine yT 3 (some 61) ?_ hS0 ?_ ?_
     rotate_left
     ·(intro w' hSw;go_simp;try with_reducible rfl)
     simp only [Act.put,yB,yC,yD]
     refine yT 4 (some 62) ?_ hS0 ?_ ?_
     rotate_left
     ·(intro w' hSw;go_simp;try with_reducible rfl)
     simp only [Act.put,yB,yC,yD]
     refine yT 5 (some 63) ?_ hS0 ?_ ?_
     rotate_left
     ·(intro w' hSw;go_simp;try with_reducible rfl)
     simp only [Act.put,yB,yC,yD]
     refine yT 6 (some 64) ?_ hS0 ?_ ?_
     rotate_left
     ·(intro w' hSw;have q0:=(HSM2.out w' hSw).1;go_simp;try with_reducible rfl)
     simp only [Act.put,yB,yC,yD]
     refine yT 7 (some 65) (.string ⟨U7.toArray⟩) hS0 ?_ ?_
     ·(intro w' hSw;apply ycat HU7.out (.tmp 59) (.tmp 64) <;> rfl)
     simp only [Act.put,yB,yC,yD]
     refine yT 8 (some 66) (.string ⟨U8.toArray⟩) hS0 ?_ ?_
     ·(intro w' hSw;apply ycat HU8.out (.tmp 65) (.const (.string ⟨#[32]⟩)) <;> rfl)
     simp only [Act.put,yB,yC,yD]
     refine yT 9 (some 67) ?_ hS0 ?_ ?_
     rotate_left
     ·(intro w' hSw;go_simp;try with_reducible rfl)
     simp only [Act.put,yB,yC,yD]
     refine yT 10 (some 68) ?_ hS0 ?_ ?_
     rotate_left
     ·(intro w' hSw;go_simp;try with_reducible rfl)
     simp only [Act.put,yB,yC,yD]
     refine yT 11 (some 69) ?_ hS0 ?_ ?_
     rotate_left
     ·(intro w' hSw;go_simp;try with_reducible rfl)
     simp only [Act.put,yB,yC,yD]
     refine yT 12 (some 70) ?_ hS0 ?_ ?_
     rotate_left
     ·(intro w' hSw;go_simp;try with_reducible rfl)
     simp only [Act.put,yB,yC,yD]
     refine yT 13 (some 71) ?_ hS0 ?_ ?_
     rotate_left
     ·(intro w' hSw;have q0:=(HSM2.out w' hSw).2;go_simp;try with_reducible rfl)
     simp only [Act.put,yB,yC,yD]
     refine yT 14 (some 72) (.string ⟨U14.toArray⟩) hS0 ?_ ?_
     ·(intro w' hSw;apply ycat HU14.out (.tmp 66) (.tmp 71) <;> rfl)
     simp only [Act.put,yB,yC,yD]
     refine yT 15 (some 73) (.string ⟨U15.toArray⟩) hS0 ?_ ?_
     ·(intro w' hSw;apply ycat HU15.out (.tmp 72) (.const (.string ⟨#[10]⟩)) <;> rfl)
     simp only [Act.put,yB,yC,yD]
     refine yT 16 (some 3) ?_ hS0 ?_ ?_
     rotate_left
     ·(intro w' hSw;go_simp;try with_reducible rfl)
     simp only [Act.put]
     refine wpAnyT_done (by kernel_rfl) ?_ _
     clear hS0
     have HU:=zh (show U15=TY++(SN.take (j+1)).flatMap needT' by rw [HTJ.out,HNT2.out,<- List.append_assoc,HTZ.out];rw [<- HU15.out.1,<- HU14.out.1,<- HU8.out.1,<- HU7.out.1,<- HU1.out.1];simp)
     go_wp2_with fail
     exact ⟨⟨j+1,by omega,rfl,by rw [<- HU.out],HMJ.out⟩,by show m - ((j:Int)+1).toNat < m - (j:Int).toNat;omega⟩
    ·obtain rfl:j=m:=by omega
     have hj1:¬ ((j:Int) < (j:Int)):=by omega
     have HFX:=zh (show TY++(SN.take j).flatMap needT'=indexT (l.take (k+1)) by
      rw [HTK.out,HRT.out,HPK.out,HNT.out,List.append_assoc]
      have h1:SN.length=j:=by rw [<- HSE.out,List.length_map,sortR_length];exact HML.out.symm
      rw [<- h1,List.take_length])
     go_wp2_with fail
     exact ⟨⟨k+1,by omega,rfl,by rw [HFX.out],HMH.out.trans HMI.out⟩,by show n - ((k:Int)+1).toNat < n - (k:Int).toNat;omega⟩
  ·obtain rfl:k=n:=by omega
   have hk1:¬ ((k:Int) < (k:Int)):=by omega
   go_wp2_with fail
   refine fin hR ⟨?_,HM.out⟩
   show Ending.returned (strV (indexT (l.take k)))=_
   rw [HFI.out]
structure MadeR (B:Nat) (w:World) (l:List SRow) (rv av:Value) (ys:List RwX) (as':List ArX):Prop where
 rows:RowsM B w rv ys
 arcs:ArcsM B w av as'
 told:ys.map RwX.r=(keptK [] l).map rowK
 packed:as'.map ArX.b=(keptK [] l).map archK
theorem keptK_one (st:List SRow) (r:SRow):keptK st [r]=if (atL (st.map rowK) (nameK r.n) (verK r.v)).isSome then st else st++[r]:=rfl
theorem kept_take {l:List SRow} {k:Nat} (h:k < l.length):keptK [] (l.take (k+1))=keptK (keptK [] (l.take k)) [l[k]]:=by
 rw [List.take_succ_eq_append_getElem h,kept_snoc,keptK_one]
theorem ver_small_all:∀ k:Fin 6,(verK k.1).ma < 1000000000000000000/\(verK k.1).mi < 1000000000000000000/\(verK k.1).pa < 1000000000000000000:=by decide +kernel
theorem rowK_small (r:SRow) (hn:r.needs.length<=20):RwSm (rowK r):=by
 obtain ⟨-,-,h3,-⟩:=rowK_facts r hn
 have h:=ver_small_all ⟨r.v % 6,Nat.mod_lt _ (by omega)⟩
 have e:verK (r.v % 6)=verK r.v:=by unfold verK;rw [Nat.mod_mod]
 dsimp only at h
 rw [e] at h
 exact ⟨h,by show szK r < _;omega⟩
set_option maxRecDepth 100000 in
set_option maxHeartbeats 16000000 in
theorem made_any (xs:List SrX) (hxl:xs.length<=20) (v:Value) (w:World) (hok:∀ x ∈ xs,SrOk w x) (h4:∀ x ∈ xs,x.r.needs.length<=4) (hv:SvX w No v xs.length (xs.flatMap SrX.cells)) :
  Calls prog 9 #[v] w fun e w'=>(∃ rv av ys as',e=.returned (.tuple #[rv,av,strV (indexT ((keptK [] (xs.map SrX.r)).map rowK))])/\MadeR w.heap.size w' (xs.map SrX.r) rv av ys as')/\Mod No w w':=by
 refine calls_hide fun R hR=>?_
 obtain ⟨va,vc,rfl⟩:=hv.len
 have HOK:=zh hok
 have H4:=zh h4
 have HV:=zh hv
 obtain ⟨n,hn⟩:∃ n,n=xs.length:=⟨_,rfl⟩
 rw [<- hn] at hxl ⊢
 have HN:=zh hn
 clear hok h4 hv hn
 go_enter func9,ntmps9
 go_wp2_with fail
 go_loopw [5,6,7] (fun q5 q6 q7 wr=>∃ (k:Nat) (rv av:Value) (ys:List RwX) (as':List ArX),k<=n/\q7=.int .i64 (k:Int)/\q5=rv/\q6=av/\MadeR w.heap.size wr ((xs.map SrX.r).take k) rv av ys as'/\Mod No w wr) (fun q5 q6 q7 wr=>match q7 with | .int _ i=>n - i.toNat | _=>0)
 case atStart=>exact ⟨0,.slice none 0 0,.slice none 0 0,[],[],by omega,rfl,rfl,rfl,⟨⟨⟨by simp,.inl ⟨rfl,rfl⟩⟩,fun x hx=>by cases hx⟩,⟨⟨by simp,.inl ⟨rfl,rfl⟩⟩,fun x hx=>by cases hx⟩,rfl,rfl⟩,Mod.refl _ _⟩
 case round =>
  obtain ⟨k,rv,av,ys,as',hk,rfl,rfl,rfl,hmd,hmod⟩:=hrel
  have hk0:(0:Int)<=(k:Int):=Int.natCast_nonneg _
  have HM:=zh hmod
  have HMD:=zh hmd
  clear hmod hmd
  by_cases hlt:k < n
  ·have hlt2:k < xs.length:=by rw [<- HN.out];exact hlt
   have hk1:(k:Int) < (n:Int):=by omega
   have HR1:=zh (show ∃ ib io,va=some ⟨ib,io,none⟩/\ib < w.heap.size/\wr.rangeAt ib (io+k*5) (SrX.cells xs[k]) from by
    obtain ⟨ib,io,c,hvs,-,-,-⟩:=HV.out.shape (by omega)
    cases hvs
    obtain ⟨tE,h9⟩:=HV.out.get (by omega)
    rw [<- HN.out] at h9
    obtain ⟨cur,fz,h8⟩:=h9.block
    refine ⟨ib,io,rfl,lt_of_heap h8,HM.out.rangeAt (Sl.at SrX.cells_length h9 hlt2) (fun f=>f)⟩)
   obtain ⟨ib,io,hva,hib,hrg⟩:=HR1.out
   subst hva
   have HKT:=zh (show keptK [] ((xs.map SrX.r).take (k+1))=keptK (keptK [] ((xs.map SrX.r).take k)) [xs[k].r] from by
    rw [kept_take (by rw [List.length_map];exact hlt2),List.getElem_map])
   have HST:=zh (show (keptK [] ((xs.map SrX.r).take k)).length<=1000 from by
    have h9:=kept_length ((xs.map SrX.r).take k) []
    rw [List.length_nil,List.length_take] at h9
    omega)
   have HSO:=zh (show SrOk wr xs[k] from ⟨(HOK.out _ (List.getElem_mem hlt2)).needs.kn HM.out,(HOK.out _ (List.getElem_mem hlt2)).few,(HOK.out _ (List.getElem_mem hlt2)).small⟩)
   have HSB:=zh (show SvX wr (fun q=>w.heap.size<=q) xs[k].nv xs[k].r.needs.length (u16s xs[k].r.needs) from
    ((HOK.out _ (List.getElem_mem hlt2)).needs.avoid.shrink (Y:=fun b=>w.heap.size<=b) (fun b _ h=>.inr h)).kn HM.out)
   have HP:=zh (fun a=>row1_part undef (.slice none 0 0) (.slice none 0 0) (.string ⟨#[]⟩) undef undef undef undef w.heap.size (keptK [] ((xs.map SrX.r).take k)) ys as' xs[k] u5 u6 k ib io n vc a wr HM.out.size HMD.out.rows HMD.out.arcs HMD.out.told HMD.out.packed HST.out HSO.out HSB.out hlt hrg hib)
   clear HR1 hib hrg
   go_upto_block 1 with fail
   rename_i K1 hK1
   refine wp_only (HP.out _ ⟨rfl,rfl,rfl,rfl,rfl,rfl,rfl,rfl,rfl,rfl,rfl,rfl,rfl,rfl,trivial⟩) ?_
   rintro a9 w9 ⟨rv9,av9,ys9,as9,hF9,hr9,ha9,ht9,hp9,hm9⟩
   have HM9:=zh (show Mod No w w9 from HM.out.then hm9 (fun i hi h=>Nat.lt_irrefl _ (Nat.lt_of_lt_of_le hi h)))
   have HMD9:=zh (show MadeR w.heap.size w9 ((xs.map SrX.r).take (k+1)) rv9 av9 ys9 as9 from ⟨hr9,ha9,by rw [HKT.out];exact ht9,by rw [HKT.out];exact hp9⟩)
   refine hK1 _ _ ?_
   clear hK1 K1 hr9 ha9 ht9 hp9 hm9 HP HMD HM HST HSO HSB HKT
   obtain ⟨ts,ds⟩:=a9
   obtain ⟨hsz,hds,hs0,hs5,hs6,hs7,hs1,hs2,hs3,hs4,hs215,hs216,hs217,hs218,-⟩:=hF9
   dsimp only at hsz hds hs0 hs5 hs6 hs7 hs1 hs2 hs3 hs4 hs215 hs216 hs217 hs218
   subst hds
   obtain ⟨c,rfl,hc⟩:=lit219 ts hsz
   rw [hc] at hs0
   rw [hc] at hs5
   rw [hc] at hs6
   rw [hc] at hs7
   rw [hc] at hs1
   rw [hc] at hs2
   rw [hc] at hs3
   rw [hc] at hs4
   rw [hc] at hs215
   rw [hc] at hs216
   rw [hc] at hs217
   rw [hc] at hs218
   simp only [hs0,hs5,hs6,hs7,hs1,hs2,hs3,hs4,hs215,hs216,hs217,hs218]
   clear hc hsz hs0 hs5 hs6 hs7 hs1 hs2 hs3 hs4 hs215 hs216 hs217 hs218
   go_wp2_with fail
   exact ⟨⟨k+1,_,_,ys9,as9,by omega,rfl,rfl,rfl,HMD9.out,HM9.out⟩,by show n - ((k:Int)+1).toNat < n - (k:Int).toNat;omega⟩
  ·obtain rfl:k=n:=by omega
   have hk1:¬ ((k:Int) < (k:Int)):=by omega
   have hml:(xs.map SrX.r).take k=xs.map SrX.r:=List.take_of_length_le (by rw [List.length_map,HN.out];exact Nat.le_refl _)
   rw [hml] at HMD
   have hyl:ys.length<=20:=by
    have h9:=congrArg List.length HMD.out.told
    rw [List.length_map,List.length_map] at h9
    have h8:=kept_length (xs.map SrX.r) []
    rw [List.length_nil,Nat.zero_add,List.length_map,<- HN.out] at h8
    omega
   have HIX:=zh (show ∀ W,Mod No wr W->Calls prog 30 #[u5] W fun e w'=>e=.returned (strV (indexT ((keptK [] (xs.map SrX.r)).map rowK)))/\Mod No W w' from fun W hW=>by
    have h9:=ixtext_any ys (by omega) u5 W (fun y hy=>⟨(HMD.out.rows.each y hy).keep hW (Apart.no _ _),by
     have h8:y.r ∈ (keptK [] (xs.map SrX.r)).map rowK:=by rw [<- HMD.out.told];exact List.mem_map_of_mem hy
     obtain ⟨r,hr,he⟩:=List.mem_map.1 h8
     rw [<- he]
     refine rowK_small r ?_
     rcases kept_mem _ _ _ hr with h7 | h7
     ·cases h7
     ·obtain ⟨x,hx,rfl⟩:=List.mem_map.1 h7
      have:=H4.out x hx
      omega⟩) ((Sl.of_own HMD.out.rows.own (fun _ _ f=>f)).kn hW) (by
     rw [HMD.out.told]
     have h9:=kept_text (xs.map SrX.r) (by rw [List.length_map,<- HN.out];exact hxl) (fun r hr=>by
      obtain ⟨x,hx,rfl⟩:=List.mem_map.1 hr
      exact H4.out x hx)
     omega)
    rw [HMD.out.told] at h9
    exact h9)
   clear hml
   generalize indexT ((keptK [] (xs.map SrX.r)).map rowK)=TX at *
   go_wp2_with fail
   with_reducible refine (HIX.out _ (Mod.refl _ _)).mono ?_
   rintro e w9 ⟨rfl,hm9⟩
   have HM9:=zh hm9
   clear hm9 HIX
   go_wp2_with fail
   exact bodyPost_ret (v:=.tuple #[u5,u6,strV TX]) (by simp [results,results9]) rfl (fin hR ⟨⟨_,_,ys,as',rfl,HMD.out.rows.no HM9.out,HMD.out.arcs.no HM9.out,HMD.out.told,HMD.out.packed⟩,HM.out.trans HM9.out⟩)
end Go.Proofs.YtgiigemfbebcgaaGreatDoor
