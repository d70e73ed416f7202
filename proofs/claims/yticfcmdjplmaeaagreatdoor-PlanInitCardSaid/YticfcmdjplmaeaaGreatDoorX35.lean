/-
  Layers 0 to 14: helps of the laws of indexes. No statement is proved here; no condition.
-/
import Derived.Test.YticfcmdjplmaeaaGreatDoorX18
import Derived.Test.YticfcmdjplmaeaaGreatDoorX09
import Derived.Test.YticfcmdjplmaeaaGreatDoorX06
import Derived.Test.YticfcmdjplmaeaaGreatDoorX16
import Derived.Test.YticfcmdjplmaeaaGreatDoorX22
set_option maxRecDepth 100000
set_option maxHeartbeats 64000000
namespace Go.Proofs.YticfcmdjplmaeaaGreatDoor
open _root_.Go.Proofs.Tryz
open Go.RowKit
structure RwSm (r:Rw):Prop where
 ver:r.v.ma < 1000000000000000000/\r.v.mi < 1000000000000000000/\r.v.pa < 1000000000000000000
 size:r.size < 1000000000000000000
structure MadeR (B:Nat) (w:World) (l:List SRow) (rv av:Value) (ys:List RwX) (as':List ArX):Prop where
 rows:RowsM B w rv ys
 arcs:ArcsM B w av as'
 told:ys.map RwX.r=(keptK [] l).map rowK
 packed:as'.map ArX.b=(keptK [] l).map archK
theorem keptK_one (st:List SRow) (r:SRow):keptK st [r]=if (atL (st.map rowK) (nameK r.n) (verK r.v)).isSome then st else st++[r]:=rfl
theorem kept_take {l:List SRow} {k:Nat} (h:k < l.length):keptK [] (l.take (k+1))=keptK (keptK [] (l.take k)) [l[k]]:=by
 rw [List.take_succ_eq_append_getElem h,kept_snoc,keptK_one]
theorem ver_small_all:∀ k:Fin 6,(verK k.1).ma < 1000000000000000000/\(verK k.1).mi < 1000000000000000000/\(verK k.1).pa < 1000000000000000000:=by decide +kernel
theorem rowK_small (r:SRow) (hn:r.needs.length<=20):RwSm (rowK r):=by
 obtain ⟨-,-,h3,-⟩:=rowK_facts r hn;have h:=ver_small_all ⟨r.v % 6,Nat.mod_lt _ (by omega)⟩;have e:verK (r.v % 6)=verK r.v:=by unfold verK;rw [Nat.mod_mod]
 dsimp only at h;rw [e] at h;exact ⟨h,by show szK r < _;omega⟩
theorem ixtext_lean (xs:List RwX) (h00:∀ x ∈ xs,x.r.needs=[]) (hx:xs.length<=1000000) (rv:Value) (w:World) (hok:∀ x ∈ xs,RwAt w x/\RwSm x.r) (hrv:Sl w No 107 rv xs.length (xs.flatMap RwX.cells)) (hlen:(indexT (xs.map RwX.r)).length<=1000000000000) :
  Calls prog 49 #[rv] w fun e w'=>e=.returned (strV (indexT (xs.map RwX.r)))/\Mod No w w':=by
 refine calls_hide fun R hR=>?_
 obtain ⟨ra,rc,rfl⟩:=hrv.len;have HOK:=zh hok;have HN00:=zh h00;have HRV:=zh hrv;obtain ⟨l,hl⟩:∃ l,l=xs.map RwX.r:=⟨_,rfl⟩
 rw [<- hl] at hlen hR;have HLL:=zh (show l.length=xs.length by rw [hl];simp);have HGX:=zh (show ∀ k (hk:k < xs.length),l[k]'(by rw [HLL.out];exact hk)=xs[k].r from fun k hk=>by simp [hl]);have HLEN:=zh (show ∀ k,(indexT (l.take k)).length<=(indexT l).length from fun k=>by
  conv=>rhs;rw [<- List.take_append_drop k l]
  unfold indexT;rw [List.flatMap_append,List.length_append];omega)
 have HLE:=zh hlen;have HFI:=zh (show l.take xs.length=l by rw [<- HLL.out];exact List.take_length);clear hok hrv hl hlen h00;obtain ⟨n,hn⟩:∃ n,n=xs.length:=⟨_,rfl⟩
 have HNX:=zh hn;rw [<- hn] at HRV hx HFI;rw [<- hn];clear hn;go_enter func49,ntmps49
 go_wp2_with fail
 go_loopw [3,4] (fun q3 q4 wr=>∃ k:Nat,k<=n/\q4=.int .i64 (k:Int)/\q3=strV (indexT (l.take k))/\Mod No w wr) (fun _ q _=>n - (intOf q).toNat)
 case atStart=>exact ⟨0,by omega,rfl,rfl,Mod.refl _ _⟩
 case round =>
  obtain ⟨k,hk,rfl,rfl,hm⟩:=hrel;have HM:=zh hm;have hk0:(0:Int)<=(k:Int):=Int.natCast_nonneg _;clear hm;by_cases hlt:k < n
  ·have hk1:(k:Int) < (n:Int):=by omega
   have hlt2:k < xs.length:=by rw [<- HNX.out];exact hlt
   obtain ⟨b,o,c,hvs,_⟩:=HRV.out.shape (by omega);cases hvs
   have HRG:=zh (HM.out.rangeAt (Sl.atM (fun x hx=>RwX.cells_length x (HOK.out x hx).1.ok.sum) HRV.out hlt2) (fun f=>f));have HXK:=zh ((HOK.out _ (List.getElem_mem hlt2)).1.keep HM.out (Apart.no _ _));have HSK:=zh (HOK.out _ (List.getElem_mem hlt2)).2;have HNK:=zh (HN00.out _ (List.getElem_mem hlt2));have HTK:=zh (show indexT (l.take (k+1))=indexT (l.take k)++rowT xs[k].r by
    rw [List.take_succ_eq_append_getElem (by rw [HLL.out];exact hlt2),HGX.out k hlt2];unfold indexT;simp)
   have HBD:=zh (show (indexT (l.take k)++rowT xs[k].r).length<=1000000000000 by rw [<- HTK.out];exact Nat.le_trans (HLEN.out (k+1)) HLE.out);clear HGX HLEN HLE;generalize xs[k]=y at *;generalize indexT (l.take k)=TX at *;obtain ⟨ys,hy1,hy2,hy3,-,-⟩:=nds_one HXK.out.nds;have HY0:=zh (show ys=[] from List.map_eq_nil_iff.1 (hy1.trans HNK.out));have HSO:=zh (fun W (hm:Mod No wr W)=>sorted_lean ys HY0.out y.nv W (by rw [show ys.length=y.r.needs.length by rw [<- hy1,List.length_map]];exact hy3.kn hm));have HSE:=zh (show (sortR ltNx ys).map NdX.n=sortR ltNd y.r.needs by rw [<- hy1];exact sortR_map NdX.n ltNd ys);have HSN0:=zh (show ∀ w',Mod No wr w'->w'.cell? ⟨b,o+k*39+38,none⟩=some y.nv from fun w' h=>h.cell (HRG.out 38 _ (by rw [<- List.getElem?_toArray];exact (by rw [List.getElem?_toArray];exact rows_get38' HXK.out.ok.sum))) (fun f=>f));obtain ⟨na,nc,hnv⟩:=hy3.len;obtain ⟨pa,pc,hpe⟩:=HXK.out.ok.pre.len;have HVX0:=zh (fun W (hm:Mod No wr W)=>vtext_any y.r.v y.pv HXK.out.ok.small HSK.out.ver W (HXK.out.ok.pre.kn hm));have HHX0:=zh (refhex_any y.r.sum HXK.out.ok.sum);have HDX0:=zh (dec_any y.r.size HSK.out.size);have HPT:=zh (show packT' y.r=[112,97,99,107]++32 :: (y.r.name++32 :: (verT y.r.v++32 :: (hexL y.r.sum++32 :: (decT y.r.size.toNat++[10])))) from rfl);have HRT:=zh (show rowT y.r=packT' y.r++(sortR ltNd y.r.needs).flatMap needT' from rfl);have HSL:=zh HXK.out.ok.sum;have HCS:=zh (show RwX.cells y=strV y.r.name :: (verCs y.r.v y.pv++(bv y.r.sum++[.int .i64 y.r.size,y.nv])) from rfl);obtain ⟨cs,hcs⟩:∃ cs,cs=RwX.cells y:=⟨_,rfl⟩
   rw [<- hcs] at HRG HCS;have hm6:y.r.needs.length<=1000000:=HXK.out.few;have hyl:y.r.needs.length=ys.length:=by rw [<- hy1,List.length_map]
   clear hcs hy1 hy2 hy3 HXK HSK;have HML:=zh (show y.r.needs.length=ys.length from hyl);generalize hPK:packT' y.r=PK at *;generalize hRT:rowT y.r=RT at *;obtain ⟨SN,hSN⟩:∃ SN,SN=sortR ltNd y.r.needs:=⟨_,rfl⟩
   rw [<- hSN] at HRT HSE;obtain ⟨NT,hNT⟩:∃ NT,NT=SN.flatMap needT':=⟨_,rfl⟩
   rw [<- hNT] at HRT;have HNT:=zh hNT;clear hPK hRT hSN hNT hyl;obtain ⟨⟨nm,⟨xa,xi,xp,xpr⟩,sm,sz,nds⟩,ypv,ynv⟩:=y;dsimp only at *;subst hpe;subst hnv;obtain ⟨m,hm⟩:∃ m,m=nds.length:=⟨_,rfl⟩
   rw [<- hm] at HML HSN0 HSO HCS hm6;obtain ⟨pn,hpn⟩:∃ n,n=xpr.length:=⟨_,rfl⟩
   rw [<- hpn] at HVX0 HCS;clear hm hpn;have HPL:=zh (show TX.length+PK.length<=1000000000000 by
    have:=HBD.out;rw [HRT.out,List.length_append,List.length_append] at this;omega)
   have hpl:=HPL.out;rw [HPT.out] at hpl;simp only [List.length_append,List.length_cons,List.length_nil] at hpl;unfold verCs at HCS;dsimp only at HCS;generalize verT ⟨xa,xi,xp,xpr⟩=VT at *;generalize hexL sm=HX at *;generalize decT sz.toNat=DT at *;obtain ⟨S1,hS1⟩:∃ c,c=TX++[112,97,99,107,32]:=⟨_,rfl⟩
   have hlS1:S1.length=TX.length+5:=(congrArg List.length hS1).trans List.length_append;have HS1:=zh (show TX++[112,97,99,107,32]=S1/\S1.length<=9223372036854775807 from ⟨hS1.symm,by omega⟩);obtain ⟨S7,hS7⟩:∃ c,c=S1++nm:=⟨_,rfl⟩
   have hlS7:S7.length=S1.length+nm.length:=(congrArg List.length hS7).trans List.length_append;have HS7:=zh (show S1++nm=S7/\S7.length<=9223372036854775807 from ⟨hS7.symm,by omega⟩);obtain ⟨S8,hS8⟩:∃ c,c=S7++[32]:=⟨_,rfl⟩
   have hlS8:S8.length=S7.length+1:=(congrArg List.length hS8).trans List.length_append;have HS8:=zh (show S7++[32]=S8/\S8.length<=9223372036854775807 from ⟨hS8.symm,by omega⟩);obtain ⟨S15,hS15⟩:∃ c,c=S8++VT:=⟨_,rfl⟩
   have hlS15:S15.length=S8.length+VT.length:=(congrArg List.length hS15).trans List.length_append;have HS15:=zh (show S8++VT=S15/\S15.length<=9223372036854775807 from ⟨hS15.symm,by omega⟩);obtain ⟨S16,hS16⟩:∃ c,c=S15++[32]:=⟨_,rfl⟩
   have hlS16:S16.length=S15.length+1:=(congrArg List.length hS16).trans List.length_append;have HS16:=zh (show S15++[32]=S16/\S16.length<=9223372036854775807 from ⟨hS16.symm,by omega⟩);obtain ⟨S23,hS23⟩:∃ c,c=S16++HX:=⟨_,rfl⟩
   have hlS23:S23.length=S16.length+HX.length:=(congrArg List.length hS23).trans List.length_append;have HS23:=zh (show S16++HX=S23/\S23.length<=9223372036854775807 from ⟨hS23.symm,by omega⟩);obtain ⟨S24,hS24⟩:∃ c,c=S23++[32]:=⟨_,rfl⟩
   have hlS24:S24.length=S23.length+1:=(congrArg List.length hS24).trans List.length_append;have HS24:=zh (show S23++[32]=S24/\S24.length<=9223372036854775807 from ⟨hS24.symm,by omega⟩);obtain ⟨S31,hS31⟩:∃ c,c=S24++DT:=⟨_,rfl⟩
   have hlS31:S31.length=S24.length+DT.length:=(congrArg List.length hS31).trans List.length_append;have HS31:=zh (show S24++DT=S31/\S31.length<=9223372036854775807 from ⟨hS31.symm,by omega⟩);obtain ⟨S32,hS32⟩:∃ c,c=S31++[10]:=⟨_,rfl⟩
   have hlS32:S32.length=S31.length+1:=(congrArg List.length hS32).trans List.length_append;have HS32:=zh (show S31++[10]=S32/\S32.length<=9223372036854775807 from ⟨hS32.symm,by omega⟩);clear hS1 hlS1 hS7 hlS7 hS8 hlS8 hS15 hlS15 hS16 hlS16 hS23 hlS23 hS24 hlS24 hS31 hlS31 hS32 hlS32;clear hpl;go_upto_region 5 with fail
   obtain ⟨wD,hwD⟩:∃ z,z=wr.drew:=⟨_,rfl⟩
   have hmD:Mod No wr wD:=by rw [hwD];exact (Mod.refl No wr).drew
   have HMD:=zh hmD;have HSM:=zh (show (∀ w',Mod No wD w'->w'.cell? ⟨b,o+k*39,none⟩=some (strV nm))/\(∀ w',Mod No wD w'->w'.rangeAt b (o+k*39+1) [.int .i64 xa,.int .i64 xi,.int .i64 xp,.slice pa pn pc])/\(∀ w',Mod No wD w'->w'.rangeAt b (o+k*39+5) (bv sm))/\(∀ w',Mod No wD w'->w'.cell? ⟨b,o+k*39+37,none⟩=some (.int .i64 sz)) from
    ⟨fun w' h=>(hmD.trans h).cell (HRG.out 0 _ (by rw [HCS.out];rfl)) (fun f=>f),
     fun w' h=>(hmD.trans h).rangeAt (rangeAt_part (p:=[strV nm]) (q:=[.int .i64 xa,.int .i64 xi,.int .i64 xp,.slice pa pn pc]) (r:=bv sm++[.int .i64 sz,.slice na m nc]) (by have h9:=HRG.out;rw [HCS.out] at h9;simpa using h9)) (fun f=>f),
     fun w' h=>(hmD.trans h).rangeAt (rangeAt_part (p:=[strV nm,.int .i64 xa,.int .i64 xi,.int .i64 xp,.slice pa pn pc]) (q:=bv sm) (r:=[.int .i64 sz,.slice na m nc]) (by have h9:=HRG.out;rw [HCS.out] at h9;simpa using h9)) (fun f=>f),
     fun w' h=>(hmD.trans h).cell (by have h9:=rangeAt_part (p:=[strV nm,.int .i64 xa,.int .i64 xi,.int .i64 xp,.slice pa pn pc]++bv sm) (q:=[.int .i64 sz]) (r:=[.slice na m nc]) (w:=wr) (b:=b) (o:=o+k*39) (by have h9:=HRG.out;rw [HCS.out] at h9;simpa using h9);have h8:=h9 0 _ rfl;rw [List.length_append,bv_length,HSL.out] at h8;exact h8) (fun f=>f)⟩)
   have HWA:=zh hwD;have hS0:=Mod.refl No wD;clear hwD hmD HRG HCS;refine wp_region_T (fun w'=>Mod No wD w') 99 (by kernel_rfl) ?_;rw [<- HWA.out];clear HWA;refine yS 0 13 hS0 ?_;refine yT 1 (some 14) (.string ⟨S1.toArray⟩) hS0 ?_ ?_
   ·(intro w' hSw;apply ycat HS1.out (.tmp 13) (.const (.string ⟨#[112,97,99,107,32]⟩)) <;> rfl)
   simp only [Act.put,yB,yC,yD];refine yS 2 15 hS0 ?_;refine yS 3 16 hS0 ?_;refine yS 4 17 hS0 ?_;refine yS 5 18 hS0 ?_;refine yT 6 (some 19) ?_ hS0 ?_ ?_;rotate_left
   ·(intro w' hSw;have q0:=HSM.out.1 w' hSw;go_simp;try with_reducible rfl)
   simp only [Act.put,yB,yC,yD];refine yT 7 (some 20) (.string ⟨S7.toArray⟩) hS0 ?_ ?_
   ·(intro w' hSw;apply ycat HS7.out (.tmp 14) (.tmp 19) <;> rfl)
   simp only [Act.put,yB,yC,yD];refine yT 8 (some 21) (.string ⟨S8.toArray⟩) hS0 ?_ ?_
   ·(intro w' hSw;apply ycat HS8.out (.tmp 20) (.const (.string ⟨#[32]⟩)) <;> rfl)
   simp only [Act.put,yB,yC,yD];refine yS 9 22 hS0 ?_;refine yS 10 23 hS0 ?_;refine yS 11 24 hS0 ?_;refine yS 12 25 hS0 ?_;refine yT 13 (some 26) (verV ⟨xa,xi,xp,xpr⟩ (.slice pa pn pc)) hS0 ?_ ?_
   ·(intro w' hSw;apply yloadv (run_loadVar_mid w' b (o+k*39+1) 40 [.int .i64 xa,.int .i64 xi,.int .i64 xp,.slice pa pn pc] _ (HSM.out.2.1 w' hSw) underlying40 rfl (by kernel_rfl)) (.tmp 25) <;> rfl)
   simp only [Act.put,yB,yC,yD];refine yS 17 30 hS0 ?_;refine yS 18 31 hS0 ?_;refine yS 19 32 hS0 ?_;refine yS 20 33 hS0 ?_;refine yT 21 (some 34) (keyV sm) hS0 ?_ ?_
   ·(intro w' hSw;apply yloadv (run_loadVar_mid w' b (o+k*39+5) 105 (bv sm) _ (HSM.out.2.2.1 w' hSw) underlying105 rfl (by rw [bv_length,HSL.out];kernel_rfl)) (.tmp 33) <;> rfl)
   simp only [Act.put,yB,yC,yD];refine yS 25 38 hS0 ?_;refine yS 26 39 hS0 ?_;refine yS 27 40 hS0 ?_;refine yS 28 41 hS0 ?_;refine yT 29 (some 42) ?_ hS0 ?_ ?_;rotate_left
   ·(intro w' hSw;have q0:=HSM.out.2.2.2 w' hSw;go_simp;try with_reducible rfl)
   simp only [Act.put,yB,yC,yD];refine wpAnyT_one 14 rfl (by kernel_rfl) rfl ?_;intro K hK;go_simp
   go_at_call 50
   with_reducible refine (HVX0.out wD HMD.out).mono ?_
   rintro e wE ⟨rfl,hwE⟩;have HMwE:=zh (hS0.trans hwE);clear hwE;show K _ _
   have hS1:=HMwE.out;refine hK.out _ _ (fun _=>hS1) ?_;clear hK K;refine yT 15 (some 28) (.string ⟨S15.toArray⟩) hS1 ?_ ?_
   ·(intro w' hSw;apply ycat HS15.out (.tmp 21) (.tmp 27) <;> rfl)
   simp only [Act.put,yB,yC,yD];refine yT 16 (some 29) (.string ⟨S16.toArray⟩) hS1 ?_ ?_
   ·(intro w' hSw;apply ycat HS16.out (.tmp 28) (.const (.string ⟨#[32]⟩)) <;> rfl)
   simp only [Act.put,yB,yC,yD];refine wpAnyT_one 22 rfl (by kernel_rfl) rfl ?_;intro K hK;go_simp
   go_at_call 84
   with_reducible refine (HHX0.out _).mono ?_
   rintro e wF ⟨rfl,hwF⟩;have HMwF:=zh (hS1.trans hwF);clear hwF;show K _ _
   have hS2:=HMwF.out;refine hK.out _ _ (fun _=>hS2) ?_;clear hK K;refine yT 23 (some 36) (.string ⟨S23.toArray⟩) hS2 ?_ ?_
   ·(intro w' hSw;apply ycat HS23.out (.tmp 29) (.tmp 35) <;> rfl)
   simp only [Act.put,yB,yC,yD];refine yT 24 (some 37) (.string ⟨S24.toArray⟩) hS2 ?_ ?_
   ·(intro w' hSw;apply ycat HS24.out (.tmp 36) (.const (.string ⟨#[32]⟩)) <;> rfl)
   simp only [Act.put,yB,yC,yD];refine wpAnyT_one 30 rfl (by kernel_rfl) rfl ?_;intro K hK;go_simp
   go_at_call 55
   with_reducible refine (HDX0.out _).mono ?_
   rintro e wG ⟨rfl,hwG⟩;have HMwG:=zh (hS2.trans hwG);clear hwG;show K _ _
   have hS3:=HMwG.out;refine hK.out _ _ (fun _=>hS3) ?_;clear hK K;refine yT 31 (some 44) (.string ⟨S31.toArray⟩) hS3 ?_ ?_
   ·(intro w' hSw;apply ycat HS31.out (.tmp 37) (.tmp 43) <;> rfl)
   simp only [Act.put,yB,yC,yD];refine yT 32 (some 45) (.string ⟨S32.toArray⟩) hS3 ?_ ?_
   ·(intro w' hSw;apply ycat HS32.out (.tmp 44) (.const (.string ⟨#[10]⟩)) <;> rfl)
   simp only [Act.put,yB,yC,yD];refine yT 33 (some 3) ?_ hS3 ?_ ?_;rotate_left
   ·(intro w' hSw;go_simp;try with_reducible rfl)
   simp only [Act.put];refine wpAnyT_done (by kernel_rfl) ?_ _
   have HMG:=zh (HMD.out.trans hS3);clear hS0 hS1 hS2 hS3;have HPK:=zh (show S32=TX++PK by rw [HPT.out];rw [<- HS32.out.1,<- HS31.out.1,<- HS24.out.1,<- HS23.out.1,<- HS16.out.1,<- HS15.out.1,<- HS8.out.1,<- HS7.out.1,<- HS1.out.1];simp);have HTY:=zh (show S32.length+NT.length<=1000000000000 by rw [HPK.out,<- List.length_append,List.append_assoc,<- HRT.out];exact HBD.out);clear HS1 HS7 HS8 HS15 HS16 HS23 HS24 HS31 HS32 HVX0 HHX0 HDX0 HSM HBD;generalize S32=TY at *;have c38:=HSN0.out wG HMG.out;go_wp2_with fail
   with_reducible refine (HSO.out wG HMG.out).mono ?_
   rintro e wH ⟨v5,rfl,hown5,hmH⟩;rw [<- HML.out] at hown5;have HMH:=zh (HM.out.trans (HMG.out.trans hmH));have HO5:=zh hown5;obtain ⟨a5,c5,hv5⟩:=own_len hown5;subst hv5;clear hown5 hmH c38 HSO HSN0;go_wp2_with fail
   go_loopw [3,6] (fun q3 q6 wi=>∃ j:Nat,j<=m/\q6=.int .i64 (j:Int)/\q3=strV (TY++(SN.take j).flatMap needT')/\Mod No wH wi) (fun _ q _=>m - (intOf q).toNat)
   case atStart=>exact ⟨0,by omega,rfl,by simp [strV],Mod.refl _ _⟩
   case round =>
    obtain ⟨j,hj,rfl,rfl,hmi⟩:=hrel;have HMI:=zh hmi;have hj0:(0:Int)<=(j:Int):=Int.natCast_nonneg _;clear hmi;obtain rfl:j=m:=by have h1:=HML.out;rw [HY0.out,List.length_nil] at h1;omega
    have hj1:¬ ((j:Int) < (j:Int)):=by omega
    have HFX:=zh (show TY++(SN.take j).flatMap needT'=indexT (l.take (k+1)) by
     rw [HTK.out,HRT.out,HPK.out,HNT.out,List.append_assoc];have h1:SN.length=j:=by rw [<- HSE.out,List.length_map,sortR_length];exact HML.out.symm
     rw [<- h1,List.take_length])
    go_wp2_with fail
    exact ⟨⟨k+1,by omega,rfl,by rw [HFX.out],HMH.out.trans HMI.out⟩,by show n - ((k:Int)+1).toNat < n - (k:Int).toNat;omega⟩
  ·obtain rfl:k=n:=by omega
   have hk1:¬ ((k:Int) < (k:Int)):=by omega
   go_wp2_with fail
   refine fin hR ⟨?_,HM.out⟩
   show Ending.returned (strV (indexT (l.take k)))=_
   rw [HFI.out]
theorem row1_lean (z1 z2 z3 z4 z215 z216 z217 z218:Value) (B:Nat) (st:List SRow) (xs:List RwX) (as':List ArX) (s:SrX) (rv av:Value) (k ib io inn icc:Nat) (f:Act) (w:World) (hB:B<=w.heap.size) (hr:RowsM B w rv xs) (ha:ArcsM B w av as') (hxs:xs.map RwX.r=st.map rowK) (has:as'.map ArX.b=st.map archK) (hst:st.length<=1000)
  (hs:SrOk w s) (hsB:SvX w (fun q=>B<=q) s.nv s.r.needs.length (u16s s.r.needs)) (hk:k < inn) (hrg:w.rangeAt ib (io+k*5) (SrX.cells s)) (_:ib < B)
  (hst0:st=[]) (hlie:s.r.lie=0) (hkind:s.r.kind=0) (hnds:s.r.needs=[])
  (hF:Fr 219 [(0,.slice (some ⟨ib,io,none⟩) inn icc),(5,rv),(6,av),(7,.int .i64 (k:Int)),(1,z1),(2,z2),(3,z3),(4,z4),(215,z215),(216,z216),(217,z217),(218,z218)] f) :
  Code.wp prog blkMd1 (Exit.then (fun a' w'=>∃ (rv' av':Value) (xs2:List RwX) (as2:List ArX),Fr 219 [(0,.slice (some ⟨ib,io,none⟩) inn icc),(5,rv'),(6,av'),(7,.int .i64 (k:Int)),(1,z1),(2,z2),(3,z3),(4,z4),(215,z215),(216,z216),(217,z217),(218,z218)] a'/\RowsM B w' rv' xs2/\ArcsM B w' av' as2/\xs2.map RwX.r=(keptK st [s.r]).map rowK/\as2.map ArX.b=(keptK st [s.r]).map archK/\Mod (fun q=>B<=q) w w') Nope) f w:=by
 refine wp_part fun J K' hJ hK=>?_
 have HJ:=zh hJ;clear hJ;obtain ⟨ts,ds⟩:=f;obtain ⟨hsz,hds,hs0,hs5,hs6,hs7,hs1,hs2,hs3,hs4,hs215,hs216,hs217,hs218,-⟩:=hF;dsimp only at hsz hds hs0 hs5 hs6 hs7 hs1 hs2 hs3 hs4 hs215 hs216 hs217 hs218;subst hds;obtain ⟨c,rfl,hc⟩:=lit219 ts hsz;rw [hc] at hs0;rw [hc] at hs5;rw [hc] at hs6;rw [hc] at hs7;rw [hc] at hs1;rw [hc] at hs2;rw [hc] at hs3;rw [hc] at hs4;rw [hc] at hs215;rw [hc] at hs216;rw [hc] at hs217;rw [hc] at hs218;simp only [hs0,hs5,hs6,hs7,hs1,hs2,hs3,hs4,hs215,hs216,hs217,hs218];clear hc hsz hs0 hs5 hs6 hs7 hs1 hs2 hs3 hs4 hs215 hs216 hs217 hs218;have HRG:=zh hrg;have HS:=zh hs;have HSB:=zh hsB;have HBB:=zh hB;have hxl:xs.length=st.length:=by rw [<- List.length_map (f:=RwX.r),hxs,List.length_map]
 have hal:as'.length=st.length:=by rw [<- List.length_map (f:=ArX.b),has,List.length_map]
 have HXS:=zh hxs;have HAS:=zh has;obtain ⟨th,hth⟩:∃ th,th=(atL (xs.map RwX.r) (nameK s.r.n) (verK s.r.v)).isSome:=⟨_,rfl⟩
 have HTHF:=zh (show th=false by rw [hth,hxs,hst0];rfl);have HLIE:=zh hlie;have HKIND:=zh hkind;have HNDS:=zh hnds;have HKP:=zh (show keptK st [s.r]=if th then st else st++[s.r] by rw [hth,hxs];rfl);have HOKX:=zh (show ∀ x ∈ xs,RwOk w x from fun x hx=>(hr.each x hx).ok);have HXS0:=zh (show xs=[] from List.map_eq_nil_iff.1 (hxs.trans (by rw [hst0];rfl)));have HFN0:=zh (fun (W:World) (v:Ver) (pv:Value) (_:Small v) (_:Mod No w W)=>reffind_lean xs HXS0.out (nameK s.r.n) v pv rv W);have HRS:=zh (fun W (hm:Mod No w W)=>Sl.keep (S:=No) (Sl.of_own hr.own (fun _ _ f=>f)) hm (fun _ _ _ f=>f.elim));obtain ⟨ra,rc,hrv⟩:=own_len hr.own;obtain ⟨aa,ac,hav⟩:=own_len ha.own;subst hrv;subst hav;rw [hxl] at hr HRS HFN0;rw [hal] at ha;rw [hxl,hal];have HXL:=zh hxl;have HAL:=zh hal;have HR:=zh hr;have HA:=zh ha;obtain ⟨⟨va,vi,vp,pr⟩,hV⟩:∃ V,V=verK s.r.v:=⟨_,rfl⟩
 have HVK:=zh (show ∀ W,Calls prog 11 #[strV (verTK s.r.v)] W fun e w'=>(∃ pv,e=.returned (.tuple #[.agg #[.int .i64 va,.int .i64 vi,.int .i64 vp,pv],.int .i64 0])/\Small ⟨va,vi,vp,pr⟩/\Sl w' No 9 pv pr.length (strs pr))/\Mod No W w' from by
  have h9:=verK_any s.r.v;rw [<- hV] at h9;exact h9)
 rw [<- hV] at hth;have HTH:=zh hth;have hk1:(k:Int) < (inn:Int):=by omega
 have hk0:(0:Int)<=(k:Int):=Int.natCast_nonneg _;have c1:=hrg 1 _ rfl;have HVV:=zh hV;clear hr ha hrg hs hsB hB hth hxs has hV hxl hal hst0 hlie hkind hnds;conv=>arg 2;whnf
 go_wp2_with fail
 with_reducible refine (seatversion_any s.r.v w).mono ?_
 rintro e w1 ⟨rfl,hm1⟩;have HM1:=zh hm1;clear hm1 c1;go_wp2_with fail
 with_reducible refine (HVK.out _).mono ?_
 rintro e w2 ⟨⟨pv,rfl,hsmall,hpv⟩,hm2⟩;have HSMALL:=zh hsmall;have HPV:=zh hpv;have HM2:=zh (HM1.out.trans hm2);clear hm2 hsmall hpv;obtain ⟨pa,pc,hpv⟩:=HPV.out.len;subst hpv;go_upto_region 7 with fail
 obtain ⟨vb,hvb⟩:∃ g,g=w2.heap.size:=⟨_,rfl⟩
 rw [<- hvb];generalize hw3:World.alloc w2 _=w3;have hm3:Mod No w2 w3:=by rw [<- hw3];exact (Mod.refl No _).alloc _
 have HV3:=zh (show w3.heap[vb]? = some (.cells #[.int .i64 va,.int .i64 vi,.int .i64 vp,.slice pa pr.length pc] 40 (0,0)) by rw [<- hw3,hvb];exact heap_alloc_new _ _);have HM3:=zh (HM2.out.trans hm3);have HP3:=zh (HPV.out.kn hm3);clear hw3 hvb hm3 HPV HVK HM2 HM1;rename_i K7 hK7;obtain ⟨zs,hzs⟩:∃ zs,zs=rowCs ⟨#[]⟩ 0 0 0 (.slice none 0 0) (List.replicate 32 0) 0:=⟨_,rfl⟩
 have HZS:=zh hzs;have HZL:=zh (show zs.toArray.size=39 by rw [hzs];exact rowCs_length (by simp) _ _ _ _ _ _);obtain ⟨wD,hwD⟩:∃ y,y=w3.drew:=⟨_,rfl⟩
 have hmD:Mod No w3 wD:=by rw [hwD];exact (Mod.refl No w3).drew
 have HMD:=zh (HM3.out.trans hmD);have H3D:=zh hmD;have HPD:=zh (HP3.out.kn hmD);have HSM:=zh (show ∀ w',Mod No wD w'->w'.cell? ⟨ib,io+k*5,none⟩=some (.int .u8 (s.r.n:Int))/\w'.heap[vb]? = some (.cells #[.int .i64 va,.int .i64 vi,.int .i64 vp,.slice pa pr.length pc] 40 (0,0)) from fun w' h =>
  ⟨(HMD.out.trans h).cell (HRG.out 0 _ rfl) (fun f=>f),(hmD.trans h).keep HV3.out (fun f=>f)⟩)
 have HFN:=zh (show ∀ W,Mod No wD W->Calls prog 42 #[.slice ra st.length rc,strV (nameK s.r.n),.agg #[.int .i64 va,.int .i64 vi,.int .i64 vp,.slice pa pr.length pc]] W fun e w'=>FindR xs (nameK s.r.n) ⟨va,vi,vp,pr⟩ e/\Mod No W w' from fun W hm=>by
  exact HFN0.out W ⟨va,vi,vp,pr⟩ (.slice pa pr.length pc) HSMALL.out (HMD.out.trans hm) (HPD.out.kn hm) (HRS.out W (HMD.out.trans hm)))
 have HWD:=zh hwD;have hS0:=Mod.refl No wD;clear hwD hmD hzs;refine wp_only (R:=fun a' w'=>Fr 219 [(0,.slice (some ⟨ib,io,none⟩) inn icc),(5,.slice ra st.length rc),(6,.slice aa st.length ac),(7,.int .i64 (k:Int)),(1,z1),(2,z2),(3,z3),(4,z4),(215,z215),(216,z216),(217,z217),(218,z218),(8,.pointer (some ⟨vb,0,none⟩)),(11,.bool th)] a'/\Mod No wD w') ?_ ?_
 ·clear hK7 K7;refine wp_region_T (fun w'=>Mod No wD w') 99 (by kernel_rfl) ?_;rw [<- HWD.out];refine yS 0 39 hS0 ?_;refine yS 1 40 hS0 ?_;refine yS 2 41 hS0 ?_;refine yS 3 42 hS0 ?_;refine yS 4 43 hS0 ?_;refine yT 5 (some 44) (.int .u8 (s.r.n:Int)) hS0 ?_ ?_
  ·(intro w' hSw;have q0:=(HSM.out w' hSw).1;go_simp;try with_reducible rfl)
  simp only [Act.put,yB,yC,yD];refine yT 7 (some 46) (.agg #[.int .i64 va,.int .i64 vi,.int .i64 vp,.slice pa pr.length pc]) hS0 ?_ ?_
  ·(intro w' hSw;apply yloadv (load_ver (HSM.out w' hSw).2) (.tmp 8) <;> rfl)
  simp only [Act.put,yB,yC,yD];refine wpAnyT_two 6 12 rfl rfl (by kernel_rfl) rfl rfl ?_ ?_
  ·intro K hK;go_simp
   go_at_call 43
   with_reducible refine (seatname_any s.r.n wD).mono ?_
   rintro e wD_6 ⟨rfl,hwD_6⟩;have HMwD_6:=zh (show Mod No wD wD_6 by rw [hwD_6];exact hS0);clear hwD_6;show K _ _
   have hS1:=HMwD_6.out;refine hK.out _ _ (fun _=>hS1) ?_;clear hK K;refine wpAnyT_two 8 12 rfl rfl (by kernel_rfl) rfl rfl ?_ ?_
   ·intro K hK;go_simp
    go_at_call 42
    with_reducible refine (HFN.out wD_6 hS1).mono ?_
    rintro e wD_6_8 ⟨hfr,hmwD_6_8⟩;obtain ⟨ds,rfl,hd1,hd2⟩:=findr_u HOKX.out th HTH.out hfr;have HD39:=zh hd1;have HDO:=zh hd2;have HMwD_6_8:=zh (hS1.trans hmwD_6_8);clear hmwD_6_8 hfr hd1 hd2;show K _ _
    have hS2:=HMwD_6_8.out;refine hK.out _ _ (fun _=>hS2) ?_;clear hK K;refine yS 9 38 hS2 ?_;refine yS 10 48 hS2 ?_;refine yS 11 49 hS2 ?_;refine wpAnyT_one 12 rfl (by kernel_rfl) rfl ?_;intro K hK;obtain ⟨fb,hfb⟩:∃ g,g=wD_6_8.heap.size:=⟨_,rfl⟩
    go_simp
    rw [<- hfb];generalize hwwD_6_8_12:World.alloc wD_6_8 _=wD_6_8_12;have HFB:=zh (show wD_6_8_12.heap[fb]? = some (.cells zs.toArray 107 (0,0)) by rw [<- hwwD_6_8_12,hfb,HZS.out];exact heap_alloc_new _ _);have hmwD_6_8_12:Mod No wD_6_8 wD_6_8_12:=by rw [<- hwwD_6_8_12];exact (Mod.refl No _).alloc _
    have HMwD_6_8_12:=zh (hS2.trans hmwD_6_8_12);have HFL:=zh (show wD.heap.size<=fb by rw [hfb];exact hS2.size);clear hwwD_6_8_12 hfb hmwD_6_8_12;show K _ _
    have hS3:=HMwD_6_8_12.out;refine hK.out _ _ (fun _=>hS3) ?_;clear hK K;refine wpAnyT_one 13 rfl (by kernel_rfl) rfl ?_;intro K hK;refine wp_store_row 107 (.tmp 10) (.tmp 48) rfl fb ds rfl rfl 107 zs.toArray HFB.out (by rw [HD39.out];exact row_info) (by rw [HD39.out];exact HZL.out) HDO.out ?_;obtain ⟨wD_6_8_12_13,hwD_6_8_12_13⟩:∃ y,y=wD_6_8_12.setRow fb ds:=⟨_,rfl⟩
    rw [<- hwD_6_8_12_13];have HMwD_6_8_12_13:=zh (show Mod No wD wD_6_8_12_13 by rw [hwD_6_8_12_13];exact hS3.setRow (fun h=>absurd h (by have h1:=HFL.out;omega)) ds);clear hwD_6_8_12_13;show K _ _
    have hS4:=HMwD_6_8_12_13.out;refine hK.out _ _ (fun _=>hS4) ?_;clear hK K;refine yT 14 (some 11) ?_ hS4 ?_ ?_;rotate_left
    ·(intro w' hSw;go_simp;try with_reducible rfl)
    simp only [Act.put];refine wpAnyT_done (by kernel_rfl) ?_ _
    exact ⟨⟨rfl,rfl,rfl,rfl,rfl,rfl,rfl,rfl,rfl,rfl,rfl,rfl,rfl,rfl,rfl,rfl,trivial⟩,HMwD_6_8_12_13.out⟩
   ·intro K hK;obtain ⟨fb,hfb⟩:∃ g,g=wD_6.heap.size:=⟨_,rfl⟩
    go_simp
    rw [<- hfb];generalize hwwD_6_12:World.alloc wD_6 _=wD_6_12;have HFB:=zh (show wD_6_12.heap[fb]? = some (.cells zs.toArray 107 (0,0)) by rw [<- hwwD_6_12,hfb,HZS.out];exact heap_alloc_new _ _);have hmwD_6_12:Mod No wD_6 wD_6_12:=by rw [<- hwwD_6_12];exact (Mod.refl No _).alloc _
    have HMwD_6_12:=zh (hS1.trans hmwD_6_12);have HFL:=zh (show wD.heap.size<=fb by rw [hfb];exact hS1.size);clear hwwD_6_12 hfb hmwD_6_12;show K _ _
    have hS2:=HMwD_6_12.out;refine hK.out _ _ (fun _=>hS2) ?_;clear hK K;refine wpAnyT_one 8 rfl (by kernel_rfl) rfl ?_;intro K hK;go_simp
    go_at_call 42
    with_reducible refine (HFN.out wD_6_12 hS2).mono ?_
    rintro e wD_6_12_8 ⟨hfr,hmwD_6_12_8⟩;obtain ⟨ds,rfl,hd1,hd2⟩:=findr_u HOKX.out th HTH.out hfr;have HD39:=zh hd1;have HDO:=zh hd2;have HMwD_6_12_8:=zh (hS2.trans hmwD_6_12_8);have HFB:=zh (hmwD_6_12_8.keep HFB.out (fun f=>f));clear hmwD_6_12_8 hfr hd1 hd2;show K _ _
    have hS3:=HMwD_6_12_8.out;refine hK.out _ _ (fun _=>hS3) ?_;clear hK K;refine yS 9 38 hS3 ?_;refine yS 10 48 hS3 ?_;refine yS 11 49 hS3 ?_;refine wpAnyT_one 13 rfl (by kernel_rfl) rfl ?_;intro K hK;refine wp_store_row 107 (.tmp 10) (.tmp 48) rfl fb ds rfl rfl 107 zs.toArray HFB.out (by rw [HD39.out];exact row_info) (by rw [HD39.out];exact HZL.out) HDO.out ?_;obtain ⟨wD_6_12_8_13,hwD_6_12_8_13⟩:∃ y,y=wD_6_12_8.setRow fb ds:=⟨_,rfl⟩
    rw [<- hwD_6_12_8_13];have HMwD_6_12_8_13:=zh (show Mod No wD wD_6_12_8_13 by rw [hwD_6_12_8_13];exact hS3.setRow (fun h=>absurd h (by have h1:=HFL.out;omega)) ds);clear hwD_6_12_8_13;show K _ _
    have hS4:=HMwD_6_12_8_13.out;refine hK.out _ _ (fun _=>hS4) ?_;clear hK K;refine yT 14 (some 11) ?_ hS4 ?_ ?_;rotate_left
    ·(intro w' hSw;go_simp;try with_reducible rfl)
    simp only [Act.put];refine wpAnyT_done (by kernel_rfl) ?_ _
    exact ⟨⟨rfl,rfl,rfl,rfl,rfl,rfl,rfl,rfl,rfl,rfl,rfl,rfl,rfl,rfl,rfl,rfl,trivial⟩,HMwD_6_12_8_13.out⟩
  ·intro K hK;obtain ⟨fb,hfb⟩:∃ g,g=wD.heap.size:=⟨_,rfl⟩
   go_simp
   rw [<- hfb];generalize hwwD_12:World.alloc wD _=wD_12;have HFB:=zh (show wD_12.heap[fb]? = some (.cells zs.toArray 107 (0,0)) by rw [<- hwwD_12,hfb,HZS.out];exact heap_alloc_new _ _);have hmwD_12:Mod No wD wD_12:=by rw [<- hwwD_12];exact (Mod.refl No _).alloc _
   have HMwD_12:=zh (hS0.trans hmwD_12);have HFL:=zh (show wD.heap.size<=fb by rw [hfb];exact hS0.size);clear hwwD_12 hfb hmwD_12;show K _ _
   have hS1:=HMwD_12.out;refine hK.out _ _ (fun _=>hS1) ?_;clear hK K;refine wpAnyT_one 6 rfl (by kernel_rfl) rfl ?_;intro K hK;go_simp
   go_at_call 43
   with_reducible refine (seatname_any s.r.n wD_12).mono ?_
   rintro e wD_12_6 ⟨rfl,hwD_12_6⟩;have HMwD_12_6:=zh (show Mod No wD wD_12_6 by rw [hwD_12_6];exact hS1);have HFB:=zh (show wD_12_6.heap[fb]? = some (.cells zs.toArray 107 (0,0)) by rw [hwD_12_6];exact HFB.out);clear hwD_12_6;show K _ _
   have hS2:=HMwD_12_6.out;refine hK.out _ _ (fun _=>hS2) ?_;clear hK K;refine wpAnyT_one 8 rfl (by kernel_rfl) rfl ?_;intro K hK;go_simp
   go_at_call 42
   with_reducible refine (HFN.out wD_12_6 hS2).mono ?_
   rintro e wD_12_6_8 ⟨hfr,hmwD_12_6_8⟩;obtain ⟨ds,rfl,hd1,hd2⟩:=findr_u HOKX.out th HTH.out hfr;have HD39:=zh hd1;have HDO:=zh hd2;have HMwD_12_6_8:=zh (hS2.trans hmwD_12_6_8);have HFB:=zh (hmwD_12_6_8.keep HFB.out (fun f=>f));clear hmwD_12_6_8 hfr hd1 hd2;show K _ _
   have hS3:=HMwD_12_6_8.out;refine hK.out _ _ (fun _=>hS3) ?_;clear hK K;refine yS 9 38 hS3 ?_;refine yS 10 48 hS3 ?_;refine yS 11 49 hS3 ?_;refine wpAnyT_one 13 rfl (by kernel_rfl) rfl ?_;intro K hK;refine wp_store_row 107 (.tmp 10) (.tmp 48) rfl fb ds rfl rfl 107 zs.toArray HFB.out (by rw [HD39.out];exact row_info) (by rw [HD39.out];exact HZL.out) HDO.out ?_;obtain ⟨wD_12_6_8_13,hwD_12_6_8_13⟩:∃ y,y=wD_12_6_8.setRow fb ds:=⟨_,rfl⟩
   rw [<- hwD_12_6_8_13];have HMwD_12_6_8_13:=zh (show Mod No wD wD_12_6_8_13 by rw [hwD_12_6_8_13];exact hS3.setRow (fun h=>absurd h (by have h1:=HFL.out;omega)) ds);clear hwD_12_6_8_13;show K _ _
   have hS4:=HMwD_12_6_8_13.out;refine hK.out _ _ (fun _=>hS4) ?_;clear hK K;refine yT 14 (some 11) ?_ hS4 ?_ ?_;rotate_left
   ·(intro w' hSw;go_simp;try with_reducible rfl)
   simp only [Act.put];refine wpAnyT_done (by kernel_rfl) ?_ _
   exact ⟨⟨rfl,rfl,rfl,rfl,rfl,rfl,rfl,rfl,rfl,rfl,rfl,rfl,rfl,rfl,rfl,rfl,trivial⟩,HMwD_12_6_8_13.out⟩
 rintro a4 w4 ⟨hF4,hm4⟩;refine hK7 _ _ ?_;have HM4:=zh hm4;clear hK7 K7 HFN HFN0 hS0 hm4;obtain ⟨ts,ds⟩:=a4;obtain ⟨hsz,hds,hs0,hs5,hs6,hs7,hs1,hs2,hs3,hs4,hs215,hs216,hs217,hs218,hs8,hs11,-⟩:=hF4;dsimp only at hsz hds hs0 hs5 hs6 hs7 hs1 hs2 hs3 hs4 hs215 hs216 hs217 hs218 hs8 hs11;subst hds;obtain ⟨c,rfl,hc⟩:=lit219 ts hsz;rw [hc] at hs0;rw [hc] at hs5;rw [hc] at hs6;rw [hc] at hs7;rw [hc] at hs1;rw [hc] at hs2;rw [hc] at hs3;rw [hc] at hs4;rw [hc] at hs215;rw [hc] at hs216;rw [hc] at hs217;rw [hc] at hs218;rw [hc] at hs8;rw [hc] at hs11;simp only [hs0,hs5,hs6,hs7,hs1,hs2,hs3,hs4,hs215,hs216,hs217,hs218,hs8,hs11];clear hc hsz hs0 hs5 hs6 hs7 hs1 hs2 hs3 hs4 hs215 hs216 hs217 hs218 hs8 hs11;have hthf:=HTHF.out;subst hthf;have HKS:=zh (show keptK st [s.r]=st++[s.r] by rw [HKP.out];rfl);have HW4:=zh (HMD.out.trans HM4.out);obtain ⟨na,nc,hnv⟩:=HSB.out.len;have HNV:=zh hnv;have HRG4:=zh (show w4.rangeAt ib (io+k*5) [.int .u8 (s.r.n:Int),.int .u8 (s.r.v:Int),.slice na s.r.needs.length nc,.int .u8 (s.r.kind:Int),.int .u8 (s.r.lie:Int)] by
  have h9:=HW4.out.rangeAt HRG.out (fun f=>f);unfold SrX.cells at h9;rw [hnv] at h9;exact h9)
 have HFI:=zh (files_any s.r.n s.r.v s.r.needs na s.r.needs.length nc s.r.kind s.r.lie w4);clear hnv;go_wp2_with (refine wpList_load_mid rfl 83 _ rfl ib (io+k*5) rfl _ _ HRG4.out underlying83 rfl srow_info ?_)
 with_reducible refine HFI.out.mono ?_
 rintro e w5 ⟨⟨fv,fs,rfl,hfl,hff⟩,hm5⟩;have HFL:=zh hfl;have HFF:=zh (show fs.map FlX.f=filesK s.r from hff);have HM5:=zh (HW4.out.trans hm5);have H35:=zh ((H3D.out.trans HM4.out).trans hm5);have HSZ35:=zh H35.out.size;clear hfl hff hm5 HFI;have hple:(packA (filesK s.r)).length<=2000:=by
  have h9:=archK_le s.r;unfold archK at h9;rw [List.length_append] at h9;omega
 obtain ⟨P0,hP0⟩:∃ P,P=packA (filesK s.r):=⟨_,rfl⟩
 rw [<- hP0] at hple;have HP0:=zh hP0;have HPK:=zh (show Calls prog 44 #[fv] w5 fun e w'=>∃ v',e=.returned v'/\w'.ownsRow w5.heap.size 5 1 v' P0.length (bv P0)/\Mod No w5 w' from by
  have h9:=pack_any fs fv w5 HFL.out (fun x hx=>filesK_path s.r _ (by rw [<- HFF.out];exact List.mem_map_of_mem hx)) (by rw [HFF.out,<- hP0];omega);rw [HFF.out,<- hP0] at h9;exact h9)
 clear hP0;go_wp2_with fail
 with_reducible refine HPK.out.mono ?_
 rintro e w6 ⟨v6,rfl,hown6,hm6⟩;have HO6:=zh hown6;have HM6:=zh (HM5.out.trans hm6);have H36:=zh (H35.out.trans hm6);have HSZ56:=zh hm6.size;clear hown6 hm6 HPK HRG4;have HSZ5:=zh HM5.out.size;have HSZ6:=zh HM6.out.size;have c3:=HM6.out.cell (HRG.out 3 _ rfl) (fun f=>f);have hm:(s.r.kind:Int).tmod 10=((s.r.kind % 10:Nat):Int):=(Int.ofNat_tmod s.r.kind 10).symm;have hm2:(s.r.kind:Int) % 10=((s.r.kind % 10:Nat):Int):=by omega
 obtain ⟨kk,hkk⟩:∃ kk,kk=s.r.kind % 10:=⟨_,rfl⟩
 rw [<- hkk] at hm hm2;have HAK:=zh (show archK s.r=P0++(if kk=9 then [7] else []) by rw [hkk,HP0.out];rfl);have H9:=zh (show ¬ kk=9 by rw [hkk,HKIND.out];decide);clear hkk;go_upto_if 63 with fail
 rename_i K8 hK8;refine wp_only (R:=fun a' w'=>∃ v,Fr 219 [(0,.slice (some ⟨ib,io,none⟩) inn icc),(5,.slice ra st.length rc),(6,.slice aa st.length ac),(7,.int .i64 (k:Int)),(1,z1),(2,z2),(3,z3),(4,z4),(215,z215),(216,z216),(217,z217),(218,z218),(8,.pointer (some ⟨vb,0,none⟩)),(12,v)] a'/\w'.ownsRow w5.heap.size 5 1 v (archK s.r).length (bv (archK s.r))/\Mod (fun q=>w5.heap.size<=q) w6 w') ?_ ?_
 ·clear hK8 K8;have h9:=H9.out;have h9i:¬ ((kk:Nat):Int)=9:=by omega
  have h9b:(((kk:Nat):Int) == 9)=false:=by simp [h9i]
  have HAK2:=zh (show archK s.r=P0 by rw [HAK.out,if_neg h9,List.append_nil]);clear h9 HAK;go_wp2_with fail
  exact ⟨_,⟨rfl,rfl,rfl,rfl,rfl,rfl,rfl,rfl,rfl,rfl,rfl,rfl,rfl,rfl,rfl,rfl,trivial⟩,by rw [HAK2.out];exact HO6.out,Mod.refl _ w6⟩
 rintro a7 w7 ⟨v7,hF7,hown7,hm7⟩;refine hK8 _ _ ?_;have H37:=zh ((H36.out).then hm7 (fun q hq e=>absurd e (by have h1:=HSZ35.out;omega)));have HW7:=zh (HM6.out.then hm7 (fun q hq e=>absurd e (by have h1:=HSZ5.out;omega)));obtain ⟨aa2,ac2,hv7⟩:=own_len hown7;subst hv7;have HSL7:=zh (Sl.of_own (X:=No) hown7 (fun _ _ f=>f));have hal:=archK_le s.r;obtain ⟨P,hP⟩:∃ P,P=archK s.r:=⟨_,rfl⟩
 have HP:=zh hP;rw [<- hP] at hF7 hal HSL7;obtain ⟨L,hL⟩:∃ L,L=P.length:=⟨_,rfl⟩
 have HL:=zh hL;rw [<- hL] at hF7 hal HSL7;clear hK8 K8 hown7 hm7 hP hL hm hm2 c3 HM4 HW4 HM6 HSZ6 HP0 HAK HO6 HFF HFL hple;obtain ⟨ts,ds⟩:=a7;obtain ⟨hsz,hds,hs0,hs5,hs6,hs7,hs1,hs2,hs3,hs4,hs215,hs216,hs217,hs218,hs8,hs12,-⟩:=hF7;dsimp only at hsz hds hs0 hs5 hs6 hs7 hs1 hs2 hs3 hs4 hs215 hs216 hs217 hs218 hs8 hs12;subst hds;obtain ⟨c,rfl,hc⟩:=lit219 ts hsz;rw [hc] at hs0;rw [hc] at hs5;rw [hc] at hs6;rw [hc] at hs7;rw [hc] at hs1;rw [hc] at hs2;rw [hc] at hs3;rw [hc] at hs4;rw [hc] at hs215;rw [hc] at hs216;rw [hc] at hs217;rw [hc] at hs218;rw [hc] at hs8;rw [hc] at hs12;simp only [hs0,hs5,hs6,hs7,hs1,hs2,hs3,hs4,hs215,hs216,hs217,hs218,hs8,hs12];clear hc hsz hs0 hs5 hs6 hs7 hs1 hs2 hs3 hs4 hs215 hs216 hs217 hs218 hs8 hs12;have hS32:=sumF_length P;obtain ⟨S,hS⟩:∃ S,S=sumF P:=⟨_,rfl⟩
 rw [<- hS] at hS32;have HS32:=zh hS32;have HSS:=zh hS;have HNA:=zh (seatname_any s.r.n);have HNC:=zh (show rowCs ⟨(nameK s.r.n).toArray⟩ va vi vp (.slice pa pr.length pc) S (L:Int)=RwX.cells ⟨⟨nameK s.r.n,⟨va,vi,vp,pr⟩,S,L,[]⟩,.slice pa pr.length pc,.slice none 0 0⟩ from rfl);unfold strV at HNA;generalize hA:(⟨(nameK s.r.n).toArray⟩:ByteArray)=A at *;have HC:=zh (show (rowCs A va vi vp (.slice pa pr.length pc) S (L:Int)).length=39 by have:=rowCs_length hS32 A va vi vp (.slice pa pr.length pc) (L:Int);simpa using this);have HDO:=zh (show (rowCs A va vi vp (.slice pa pr.length pc) S (L:Int)).toArray.all (·.oneCell')=true by
  rw [List.all_toArray,List.all_eq_true];exact rowcs_one A va vi vp pa pr.length pc S (L:Int))
 go_upto_region 12 with fail
 rename_i K9 hK9;have HV7:=zh (show w7.heap[vb]? = some (.cells #[.int .i64 va,.int .i64 vi,.int .i64 vp,.slice pa pr.length pc] 40 (0,0)) from H37.out.keep HV3.out (fun f=>f));have HP7:=zh (HP3.out.kn H37.out);clear HSM HPD HV3 HP3 HWD;obtain ⟨wD,hwD⟩:∃ y,y=w7.drew:=⟨_,rfl⟩
 have hmD:Mod No w7 wD:=by rw [hwD];exact (Mod.refl No w7).drew
 have HMD:=zh (HW7.out.trans hmD);have HSLD:=zh (HSL7.out.kn hmD);have HPD:=zh (HP7.out.kn hmD);have HSM:=zh (show ∀ w',Mod No wD w'->w'.cell? ⟨ib,io+k*5,none⟩=some (.int .u8 (s.r.n:Int))/\w'.heap[vb]? = some (.cells #[.int .i64 va,.int .i64 vi,.int .i64 vp,.slice pa pr.length pc] 40 (0,0)) from fun w' h =>
  ⟨(HMD.out.trans h).cell (HRG.out 0 _ rfl) (fun f=>f),(hmD.trans h).keep HV7.out (fun f=>f)⟩)
 have HOF:=zh (show ∀ W ga,Mod No wD W->W.heap[ga]? = some (.cells #[.slice aa2 L ac2] 76 (0,0))->Calls prog 46 #[.slice (some ⟨ga,0,none⟩) 1 1] W fun e w'=>e=.returned (keyV S)/\Mod No W w' from fun W ga hW hga=>by
  rw [HSS.out];have h9:=HSLD.out.kn hW;have h8:=HL.out;subst h8;exact refof_any P ga 0 1 _ W (by omega) (cell_of (i:=0) hga rfl) h9)
 have HWD:=zh hwD;have hS0:=Mod.refl No wD;clear hwD hmD hS32 hS;refine wp_only (R:=fun a' w'=>∃ rb,Fr 219 [(0,.slice (some ⟨ib,io,none⟩) inn icc),(5,.slice ra st.length rc),(6,.slice aa st.length ac),(7,.int .i64 (k:Int)),(1,z1),(2,z2),(3,z3),(4,z4),(215,z215),(216,z216),(217,z217),(218,z218),(12,.slice aa2 L ac2),(13,.pointer (some ⟨rb,0,none⟩))] a'/\w'.heap[rb]? = some (.cells (rowCs A va vi vp (.slice pa pr.length pc) S (L:Int)).toArray 107 (0,0))/\wD.heap.size<=rb/\Mod No wD w') ?_ ?_
 ·clear hK9 K9;refine wp_region_T (fun w'=>Mod No wD w') 99 (by kernel_rfl) ?_;rw [<- HWD.out];refine yS 0 67 hS0 ?_;refine yS 1 68 hS0 ?_;refine yS 2 69 hS0 ?_;refine yS 3 70 hS0 ?_;refine yT 4 (some 71) (.int .u8 (s.r.n:Int)) hS0 ?_ ?_
  ·(intro w' hSw;have q0:=(HSM.out w' hSw).1;go_simp;try with_reducible rfl)
  simp only [Act.put,yB,yC,yD];refine yT 6 (some 73) (.agg #[.int .i64 va,.int .i64 vi,.int .i64 vp,.slice pa pr.length pc]) hS0 ?_ ?_
  ·(intro w' hSw;apply yloadv (load_ver (HSM.out w' hSw).2) (.tmp 8) <;> rfl)
  simp only [Act.put,yB,yC,yD];refine yS 7 74 hS0 ?_;refine yS 10 77 hS0 ?_;refine yS 11 78 hS0 ?_;refine wpAnyT_three 5 8 13 rfl rfl rfl (by kernel_rfl) rfl rfl rfl ?_ ?_ ?_
  ·intro K hK;go_simp
   go_at_call 43
   with_reducible refine (HNA.out wD).mono ?_
   rintro e wD_5 ⟨rfl,hwD_5⟩;have HMwD_5:=zh (show Mod No wD wD_5 by rw [hwD_5];exact hS0);clear hwD_5;show K _ _
   have hS1:=HMwD_5.out;refine hK.out _ _ (fun _=>hS1) ?_;clear hK K;refine wpAnyT_two 8 13 rfl rfl (by kernel_rfl) rfl rfl ?_ ?_
   ·intro K hK;obtain ⟨ga,hga⟩:∃ g,g=wD_5.heap.size:=⟨_,rfl⟩
    go_simp
    rw [<- hga];generalize hwwD_5_8:World.alloc wD_5 _=wD_5_8;have HGA:=zh (show wD_5_8.heap[ga]? = some (.cells #[.slice aa2 L ac2] 76 (0,0)) by rw [<- hwwD_5_8,hga];exact heap_alloc_new _ _);have hmwD_5_8:Mod No wD_5 wD_5_8:=by rw [<- hwwD_5_8];exact (Mod.refl No _).alloc _
    have HMwD_5_8:=zh (hS1.trans hmwD_5_8);clear hwwD_5_8 hga hmwD_5_8;show K _ _
    have hS2:=HMwD_5_8.out;refine hK.out _ _ (fun _=>hS2) ?_;clear hK K;refine wpAnyT_two 9 13 rfl rfl (by kernel_rfl) rfl rfl ?_ ?_
    ·intro K hK;go_simp
     go_at_call 46
     with_reducible refine (HOF.out wD_5_8 ga hS2 HGA.out).mono ?_
     rintro e wD_5_8_9 ⟨rfl,hmwD_5_8_9⟩;have HMwD_5_8_9:=zh (hS2.trans hmwD_5_8_9);clear hmwD_5_8_9;show K _ _
     have hS3:=HMwD_5_8_9.out;refine hK.out _ _ (fun _=>hS3) ?_;clear hK K;refine wpAnyT_takeV 12 (some 79) (.agg (rowCs A va vi vp (.slice pa pr.length pc) S L).toArray) rfl rfl (by kernel_rfl) (fun _ _ _ h=>h) hS3 (Or.inl ⟨by rfl,?_⟩) ?_
     ·(intro w' hSw;exact ybuild _ (by simp only [Array.toList_map,List.map_cons,List.map_nil];exact row_built A va vi vp pa pr.length pc HS32.out (L:Int)) rfl)
     simp only [Act.put,yB,yC,yD];refine wpAnyT_one 13 rfl (by kernel_rfl) rfl ?_;intro K hK;obtain ⟨rb,hrb⟩:∃ g,g=wD_5_8_9.heap.size:=⟨_,rfl⟩
     go_simp
     rw [<- hrb];generalize hwwD_5_8_9_13:World.alloc wD_5_8_9 _=wD_5_8_9_13;have HFB:=zh (show wD_5_8_9_13.heap[rb]? = some (.cells zs.toArray 107 (0,0)) by rw [<- hwwD_5_8_9_13,hrb,HZS.out];exact heap_alloc_new _ _);have hmwD_5_8_9_13:Mod No wD_5_8_9 wD_5_8_9_13:=by rw [<- hwwD_5_8_9_13];exact (Mod.refl No _).alloc _
     have HMwD_5_8_9_13:=zh (hS3.trans hmwD_5_8_9_13);have HRBL:=zh (show wD.heap.size<=rb by rw [hrb];exact hS3.size);clear hwwD_5_8_9_13 hrb hmwD_5_8_9_13;show K _ _
     have hS4:=HMwD_5_8_9_13.out;refine hK.out _ _ (fun _=>hS4) ?_;clear hK K;refine wpAnyT_one 14 rfl (by kernel_rfl) rfl ?_;intro K hK;refine wp_store_row 107 (.tmp 13) (.tmp 79) rfl rb (rowCs A va vi vp (.slice pa pr.length pc) S L).toArray rfl rfl 107 zs.toArray HFB.out (by rw [List.size_toArray,HC.out];exact row_info) (HZL.out.trans HC.out.symm) HDO.out ?_;obtain ⟨wD_5_8_9_13_14,hwD_5_8_9_13_14⟩:∃ y,y=wD_5_8_9_13.setRow rb (rowCs A va vi vp (.slice pa pr.length pc) S L).toArray:=⟨_,rfl⟩
     rw [<- hwD_5_8_9_13_14];have HRF:=zh (show wD_5_8_9_13_14.heap[rb]? = some (.cells (rowCs A va vi vp (.slice pa pr.length pc) S L).toArray 107 (0,0)) by rw [hwD_5_8_9_13_14];exact setRow_heap _ _ _ _ _ _ HFB.out);have HMwD_5_8_9_13_14:=zh (show Mod No wD wD_5_8_9_13_14 by rw [hwD_5_8_9_13_14];exact hS4.setRow (fun h=>absurd h (by have h1:=HRBL.out;omega)) _);clear hwD_5_8_9_13_14;show K _ _
     have hS5:=HMwD_5_8_9_13_14.out;refine hK.out _ _ (fun _=>hS5) ?_;clear hK K;refine wpAnyT_done (by kernel_rfl) ?_ _
     exact ⟨rb,⟨rfl,rfl,rfl,rfl,rfl,rfl,rfl,rfl,rfl,rfl,rfl,rfl,rfl,rfl,rfl,rfl,trivial⟩,HRF.out,HRBL.out,HMwD_5_8_9_13_14.out⟩
    ·intro K hK;obtain ⟨rb,hrb⟩:∃ g,g=wD_5_8.heap.size:=⟨_,rfl⟩
     go_simp
     rw [<- hrb];generalize hwwD_5_8_13:World.alloc wD_5_8 _=wD_5_8_13;have HFB:=zh (show wD_5_8_13.heap[rb]? = some (.cells zs.toArray 107 (0,0)) by rw [<- hwwD_5_8_13,hrb,HZS.out];exact heap_alloc_new _ _);have hmwD_5_8_13:Mod No wD_5_8 wD_5_8_13:=by rw [<- hwwD_5_8_13];exact (Mod.refl No _).alloc _
     have HMwD_5_8_13:=zh (hS2.trans hmwD_5_8_13);have HGA:=zh (hmwD_5_8_13.keep HGA.out (fun f=>f));have HRBL:=zh (show wD.heap.size<=rb by rw [hrb];exact hS2.size);clear hwwD_5_8_13 hrb hmwD_5_8_13;show K _ _
     have hS3:=HMwD_5_8_13.out;refine hK.out _ _ (fun _=>hS3) ?_;clear hK K;refine wpAnyT_one 9 rfl (by kernel_rfl) rfl ?_;intro K hK;go_simp
     go_at_call 46
     with_reducible refine (HOF.out wD_5_8_13 ga hS3 HGA.out).mono ?_
     rintro e wD_5_8_13_9 ⟨rfl,hmwD_5_8_13_9⟩;have HMwD_5_8_13_9:=zh (hS3.trans hmwD_5_8_13_9);have HFB:=zh (hmwD_5_8_13_9.keep HFB.out (fun f=>f));clear hmwD_5_8_13_9;show K _ _
     have hS4:=HMwD_5_8_13_9.out;refine hK.out _ _ (fun _=>hS4) ?_;clear hK K;refine wpAnyT_takeV 12 (some 79) (.agg (rowCs A va vi vp (.slice pa pr.length pc) S L).toArray) rfl rfl (by kernel_rfl) (fun _ _ _ h=>h) hS4 (Or.inl ⟨by rfl,?_⟩) ?_
     ·(intro w' hSw;exact ybuild _ (by simp only [Array.toList_map,List.map_cons,List.map_nil];exact row_built A va vi vp pa pr.length pc HS32.out (L:Int)) rfl)
     simp only [Act.put,yB,yC,yD];refine wpAnyT_one 14 rfl (by kernel_rfl) rfl ?_;intro K hK;refine wp_store_row 107 (.tmp 13) (.tmp 79) rfl rb (rowCs A va vi vp (.slice pa pr.length pc) S L).toArray rfl rfl 107 zs.toArray HFB.out (by rw [List.size_toArray,HC.out];exact row_info) (HZL.out.trans HC.out.symm) HDO.out ?_;obtain ⟨wD_5_8_13_9_14,hwD_5_8_13_9_14⟩:∃ y,y=wD_5_8_13_9.setRow rb (rowCs A va vi vp (.slice pa pr.length pc) S L).toArray:=⟨_,rfl⟩
     rw [<- hwD_5_8_13_9_14];have HRF:=zh (show wD_5_8_13_9_14.heap[rb]? = some (.cells (rowCs A va vi vp (.slice pa pr.length pc) S L).toArray 107 (0,0)) by rw [hwD_5_8_13_9_14];exact setRow_heap _ _ _ _ _ _ HFB.out);have HMwD_5_8_13_9_14:=zh (show Mod No wD wD_5_8_13_9_14 by rw [hwD_5_8_13_9_14];exact hS4.setRow (fun h=>absurd h (by have h1:=HRBL.out;omega)) _);clear hwD_5_8_13_9_14;show K _ _
     have hS5:=HMwD_5_8_13_9_14.out;refine hK.out _ _ (fun _=>hS5) ?_;clear hK K;refine wpAnyT_done (by kernel_rfl) ?_ _
     exact ⟨rb,⟨rfl,rfl,rfl,rfl,rfl,rfl,rfl,rfl,rfl,rfl,rfl,rfl,rfl,rfl,rfl,rfl,trivial⟩,HRF.out,HRBL.out,HMwD_5_8_13_9_14.out⟩
   ·intro K hK;obtain ⟨rb,hrb⟩:∃ g,g=wD_5.heap.size:=⟨_,rfl⟩
    go_simp
    rw [<- hrb];generalize hwwD_5_13:World.alloc wD_5 _=wD_5_13;have HFB:=zh (show wD_5_13.heap[rb]? = some (.cells zs.toArray 107 (0,0)) by rw [<- hwwD_5_13,hrb,HZS.out];exact heap_alloc_new _ _);have hmwD_5_13:Mod No wD_5 wD_5_13:=by rw [<- hwwD_5_13];exact (Mod.refl No _).alloc _
    have HMwD_5_13:=zh (hS1.trans hmwD_5_13);have HRBL:=zh (show wD.heap.size<=rb by rw [hrb];exact hS1.size);clear hwwD_5_13 hrb hmwD_5_13;show K _ _
    have hS2:=HMwD_5_13.out;refine hK.out _ _ (fun _=>hS2) ?_;clear hK K;refine wpAnyT_one 8 rfl (by kernel_rfl) rfl ?_;intro K hK;obtain ⟨ga,hga⟩:∃ g,g=wD_5_13.heap.size:=⟨_,rfl⟩
    go_simp
    rw [<- hga];generalize hwwD_5_13_8:World.alloc wD_5_13 _=wD_5_13_8;have HGA:=zh (show wD_5_13_8.heap[ga]? = some (.cells #[.slice aa2 L ac2] 76 (0,0)) by rw [<- hwwD_5_13_8,hga];exact heap_alloc_new _ _);have hmwD_5_13_8:Mod No wD_5_13 wD_5_13_8:=by rw [<- hwwD_5_13_8];exact (Mod.refl No _).alloc _
    have HMwD_5_13_8:=zh (hS2.trans hmwD_5_13_8);have HFB:=zh (hmwD_5_13_8.keep HFB.out (fun f=>f));clear hwwD_5_13_8 hga hmwD_5_13_8;show K _ _
    have hS3:=HMwD_5_13_8.out;refine hK.out _ _ (fun _=>hS3) ?_;clear hK K;refine wpAnyT_one 9 rfl (by kernel_rfl) rfl ?_;intro K hK;go_simp
    go_at_call 46
    with_reducible refine (HOF.out wD_5_13_8 ga hS3 HGA.out).mono ?_
    rintro e wD_5_13_8_9 ⟨rfl,hmwD_5_13_8_9⟩;have HMwD_5_13_8_9:=zh (hS3.trans hmwD_5_13_8_9);have HFB:=zh (hmwD_5_13_8_9.keep HFB.out (fun f=>f));clear hmwD_5_13_8_9;show K _ _
    have hS4:=HMwD_5_13_8_9.out;refine hK.out _ _ (fun _=>hS4) ?_;clear hK K;refine wpAnyT_takeV 12 (some 79) (.agg (rowCs A va vi vp (.slice pa pr.length pc) S L).toArray) rfl rfl (by kernel_rfl) (fun _ _ _ h=>h) hS4 (Or.inl ⟨by rfl,?_⟩) ?_
    ·(intro w' hSw;exact ybuild _ (by simp only [Array.toList_map,List.map_cons,List.map_nil];exact row_built A va vi vp pa pr.length pc HS32.out (L:Int)) rfl)
    simp only [Act.put,yB,yC,yD];refine wpAnyT_one 14 rfl (by kernel_rfl) rfl ?_;intro K hK;refine wp_store_row 107 (.tmp 13) (.tmp 79) rfl rb (rowCs A va vi vp (.slice pa pr.length pc) S L).toArray rfl rfl 107 zs.toArray HFB.out (by rw [List.size_toArray,HC.out];exact row_info) (HZL.out.trans HC.out.symm) HDO.out ?_;obtain ⟨wD_5_13_8_9_14,hwD_5_13_8_9_14⟩:∃ y,y=wD_5_13_8_9.setRow rb (rowCs A va vi vp (.slice pa pr.length pc) S L).toArray:=⟨_,rfl⟩
    rw [<- hwD_5_13_8_9_14];have HRF:=zh (show wD_5_13_8_9_14.heap[rb]? = some (.cells (rowCs A va vi vp (.slice pa pr.length pc) S L).toArray 107 (0,0)) by rw [hwD_5_13_8_9_14];exact setRow_heap _ _ _ _ _ _ HFB.out);have HMwD_5_13_8_9_14:=zh (show Mod No wD wD_5_13_8_9_14 by rw [hwD_5_13_8_9_14];exact hS4.setRow (fun h=>absurd h (by have h1:=HRBL.out;omega)) _);clear hwD_5_13_8_9_14;show K _ _
    have hS5:=HMwD_5_13_8_9_14.out;refine hK.out _ _ (fun _=>hS5) ?_;clear hK K;refine wpAnyT_done (by kernel_rfl) ?_ _
    exact ⟨rb,⟨rfl,rfl,rfl,rfl,rfl,rfl,rfl,rfl,rfl,rfl,rfl,rfl,rfl,rfl,rfl,rfl,trivial⟩,HRF.out,HRBL.out,HMwD_5_13_8_9_14.out⟩
  ·intro K hK;obtain ⟨ga,hga⟩:∃ g,g=wD.heap.size:=⟨_,rfl⟩
   go_simp
   rw [<- hga];generalize hwwD_8:World.alloc wD _=wD_8;have HGA:=zh (show wD_8.heap[ga]? = some (.cells #[.slice aa2 L ac2] 76 (0,0)) by rw [<- hwwD_8,hga];exact heap_alloc_new _ _);have hmwD_8:Mod No wD wD_8:=by rw [<- hwwD_8];exact (Mod.refl No _).alloc _
   have HMwD_8:=zh (hS0.trans hmwD_8);clear hwwD_8 hga hmwD_8;show K _ _
   have hS1:=HMwD_8.out;refine hK.out _ _ (fun _=>hS1) ?_;clear hK K;refine wpAnyT_two 5 13 rfl rfl (by kernel_rfl) rfl rfl ?_ ?_
   ·intro K hK;go_simp
    go_at_call 43
    with_reducible refine (HNA.out wD_8).mono ?_
    rintro e wD_8_5 ⟨rfl,hwD_8_5⟩;have HMwD_8_5:=zh (show Mod No wD wD_8_5 by rw [hwD_8_5];exact hS1);have HGA:=zh (show wD_8_5.heap[ga]? = some (.cells #[.slice aa2 L ac2] 76 (0,0)) by rw [hwD_8_5];exact HGA.out);clear hwD_8_5;show K _ _
    have hS2:=HMwD_8_5.out;refine hK.out _ _ (fun _=>hS2) ?_;clear hK K;refine wpAnyT_two 9 13 rfl rfl (by kernel_rfl) rfl rfl ?_ ?_
    ·intro K hK;go_simp
     go_at_call 46
     with_reducible refine (HOF.out wD_8_5 ga hS2 HGA.out).mono ?_
     rintro e wD_8_5_9 ⟨rfl,hmwD_8_5_9⟩;have HMwD_8_5_9:=zh (hS2.trans hmwD_8_5_9);clear hmwD_8_5_9;show K _ _
     have hS3:=HMwD_8_5_9.out;refine hK.out _ _ (fun _=>hS3) ?_;clear hK K;refine wpAnyT_takeV 12 (some 79) (.agg (rowCs A va vi vp (.slice pa pr.length pc) S L).toArray) rfl rfl (by kernel_rfl) (fun _ _ _ h=>h) hS3 (Or.inl ⟨by rfl,?_⟩) ?_
     ·(intro w' hSw;exact ybuild _ (by simp only [Array.toList_map,List.map_cons,List.map_nil];exact row_built A va vi vp pa pr.length pc HS32.out (L:Int)) rfl)
     simp only [Act.put,yB,yC,yD];refine wpAnyT_one 13 rfl (by kernel_rfl) rfl ?_;intro K hK;obtain ⟨rb,hrb⟩:∃ g,g=wD_8_5_9.heap.size:=⟨_,rfl⟩
     go_simp
     rw [<- hrb];generalize hwwD_8_5_9_13:World.alloc wD_8_5_9 _=wD_8_5_9_13;have HFB:=zh (show wD_8_5_9_13.heap[rb]? = some (.cells zs.toArray 107 (0,0)) by rw [<- hwwD_8_5_9_13,hrb,HZS.out];exact heap_alloc_new _ _);have hmwD_8_5_9_13:Mod No wD_8_5_9 wD_8_5_9_13:=by rw [<- hwwD_8_5_9_13];exact (Mod.refl No _).alloc _
     have HMwD_8_5_9_13:=zh (hS3.trans hmwD_8_5_9_13);have HRBL:=zh (show wD.heap.size<=rb by rw [hrb];exact hS3.size);clear hwwD_8_5_9_13 hrb hmwD_8_5_9_13;show K _ _
     have hS4:=HMwD_8_5_9_13.out;refine hK.out _ _ (fun _=>hS4) ?_;clear hK K;refine wpAnyT_one 14 rfl (by kernel_rfl) rfl ?_;intro K hK;refine wp_store_row 107 (.tmp 13) (.tmp 79) rfl rb (rowCs A va vi vp (.slice pa pr.length pc) S L).toArray rfl rfl 107 zs.toArray HFB.out (by rw [List.size_toArray,HC.out];exact row_info) (HZL.out.trans HC.out.symm) HDO.out ?_;obtain ⟨wD_8_5_9_13_14,hwD_8_5_9_13_14⟩:∃ y,y=wD_8_5_9_13.setRow rb (rowCs A va vi vp (.slice pa pr.length pc) S L).toArray:=⟨_,rfl⟩
     rw [<- hwD_8_5_9_13_14];have HRF:=zh (show wD_8_5_9_13_14.heap[rb]? = some (.cells (rowCs A va vi vp (.slice pa pr.length pc) S L).toArray 107 (0,0)) by rw [hwD_8_5_9_13_14];exact setRow_heap _ _ _ _ _ _ HFB.out);have HMwD_8_5_9_13_14:=zh (show Mod No wD wD_8_5_9_13_14 by rw [hwD_8_5_9_13_14];exact hS4.setRow (fun h=>absurd h (by have h1:=HRBL.out;omega)) _);clear hwD_8_5_9_13_14;show K _ _
     have hS5:=HMwD_8_5_9_13_14.out;refine hK.out _ _ (fun _=>hS5) ?_;clear hK K;refine wpAnyT_done (by kernel_rfl) ?_ _
     exact ⟨rb,⟨rfl,rfl,rfl,rfl,rfl,rfl,rfl,rfl,rfl,rfl,rfl,rfl,rfl,rfl,rfl,rfl,trivial⟩,HRF.out,HRBL.out,HMwD_8_5_9_13_14.out⟩
    ·intro K hK;obtain ⟨rb,hrb⟩:∃ g,g=wD_8_5.heap.size:=⟨_,rfl⟩
     go_simp
     rw [<- hrb];generalize hwwD_8_5_13:World.alloc wD_8_5 _=wD_8_5_13;have HFB:=zh (show wD_8_5_13.heap[rb]? = some (.cells zs.toArray 107 (0,0)) by rw [<- hwwD_8_5_13,hrb,HZS.out];exact heap_alloc_new _ _);have hmwD_8_5_13:Mod No wD_8_5 wD_8_5_13:=by rw [<- hwwD_8_5_13];exact (Mod.refl No _).alloc _
     have HMwD_8_5_13:=zh (hS2.trans hmwD_8_5_13);have HGA:=zh (hmwD_8_5_13.keep HGA.out (fun f=>f));have HRBL:=zh (show wD.heap.size<=rb by rw [hrb];exact hS2.size);clear hwwD_8_5_13 hrb hmwD_8_5_13;show K _ _
     have hS3:=HMwD_8_5_13.out;refine hK.out _ _ (fun _=>hS3) ?_;clear hK K;refine wpAnyT_one 9 rfl (by kernel_rfl) rfl ?_;intro K hK;go_simp
     go_at_call 46
     with_reducible refine (HOF.out wD_8_5_13 ga hS3 HGA.out).mono ?_
     rintro e wD_8_5_13_9 ⟨rfl,hmwD_8_5_13_9⟩;have HMwD_8_5_13_9:=zh (hS3.trans hmwD_8_5_13_9);have HFB:=zh (hmwD_8_5_13_9.keep HFB.out (fun f=>f));clear hmwD_8_5_13_9;show K _ _
     have hS4:=HMwD_8_5_13_9.out;refine hK.out _ _ (fun _=>hS4) ?_;clear hK K;refine wpAnyT_takeV 12 (some 79) (.agg (rowCs A va vi vp (.slice pa pr.length pc) S L).toArray) rfl rfl (by kernel_rfl) (fun _ _ _ h=>h) hS4 (Or.inl ⟨by rfl,?_⟩) ?_
     ·(intro w' hSw;exact ybuild _ (by simp only [Array.toList_map,List.map_cons,List.map_nil];exact row_built A va vi vp pa pr.length pc HS32.out (L:Int)) rfl)
     simp only [Act.put,yB,yC,yD];refine wpAnyT_one 14 rfl (by kernel_rfl) rfl ?_;intro K hK;refine wp_store_row 107 (.tmp 13) (.tmp 79) rfl rb (rowCs A va vi vp (.slice pa pr.length pc) S L).toArray rfl rfl 107 zs.toArray HFB.out (by rw [List.size_toArray,HC.out];exact row_info) (HZL.out.trans HC.out.symm) HDO.out ?_;obtain ⟨wD_8_5_13_9_14,hwD_8_5_13_9_14⟩:∃ y,y=wD_8_5_13_9.setRow rb (rowCs A va vi vp (.slice pa pr.length pc) S L).toArray:=⟨_,rfl⟩
     rw [<- hwD_8_5_13_9_14];have HRF:=zh (show wD_8_5_13_9_14.heap[rb]? = some (.cells (rowCs A va vi vp (.slice pa pr.length pc) S L).toArray 107 (0,0)) by rw [hwD_8_5_13_9_14];exact setRow_heap _ _ _ _ _ _ HFB.out);have HMwD_8_5_13_9_14:=zh (show Mod No wD wD_8_5_13_9_14 by rw [hwD_8_5_13_9_14];exact hS4.setRow (fun h=>absurd h (by have h1:=HRBL.out;omega)) _);clear hwD_8_5_13_9_14;show K _ _
     have hS5:=HMwD_8_5_13_9_14.out;refine hK.out _ _ (fun _=>hS5) ?_;clear hK K;refine wpAnyT_done (by kernel_rfl) ?_ _
     exact ⟨rb,⟨rfl,rfl,rfl,rfl,rfl,rfl,rfl,rfl,rfl,rfl,rfl,rfl,rfl,rfl,rfl,rfl,trivial⟩,HRF.out,HRBL.out,HMwD_8_5_13_9_14.out⟩
   ·intro K hK;obtain ⟨rb,hrb⟩:∃ g,g=wD_8.heap.size:=⟨_,rfl⟩
    go_simp
    rw [<- hrb];generalize hwwD_8_13:World.alloc wD_8 _=wD_8_13;have HFB:=zh (show wD_8_13.heap[rb]? = some (.cells zs.toArray 107 (0,0)) by rw [<- hwwD_8_13,hrb,HZS.out];exact heap_alloc_new _ _);have hmwD_8_13:Mod No wD_8 wD_8_13:=by rw [<- hwwD_8_13];exact (Mod.refl No _).alloc _
    have HMwD_8_13:=zh (hS1.trans hmwD_8_13);have HGA:=zh (hmwD_8_13.keep HGA.out (fun f=>f));have HRBL:=zh (show wD.heap.size<=rb by rw [hrb];exact hS1.size);clear hwwD_8_13 hrb hmwD_8_13;show K _ _
    have hS2:=HMwD_8_13.out;refine hK.out _ _ (fun _=>hS2) ?_;clear hK K;refine wpAnyT_one 5 rfl (by kernel_rfl) rfl ?_;intro K hK;go_simp
    go_at_call 43
    with_reducible refine (HNA.out wD_8_13).mono ?_
    rintro e wD_8_13_5 ⟨rfl,hwD_8_13_5⟩;have HMwD_8_13_5:=zh (show Mod No wD wD_8_13_5 by rw [hwD_8_13_5];exact hS2);have HFB:=zh (show wD_8_13_5.heap[rb]? = some (.cells zs.toArray 107 (0,0)) by rw [hwD_8_13_5];exact HFB.out);have HGA:=zh (show wD_8_13_5.heap[ga]? = some (.cells #[.slice aa2 L ac2] 76 (0,0)) by rw [hwD_8_13_5];exact HGA.out);clear hwD_8_13_5;show K _ _
    have hS3:=HMwD_8_13_5.out;refine hK.out _ _ (fun _=>hS3) ?_;clear hK K;refine wpAnyT_one 9 rfl (by kernel_rfl) rfl ?_;intro K hK;go_simp
    go_at_call 46
    with_reducible refine (HOF.out wD_8_13_5 ga hS3 HGA.out).mono ?_
    rintro e wD_8_13_5_9 ⟨rfl,hmwD_8_13_5_9⟩;have HMwD_8_13_5_9:=zh (hS3.trans hmwD_8_13_5_9);have HFB:=zh (hmwD_8_13_5_9.keep HFB.out (fun f=>f));clear hmwD_8_13_5_9;show K _ _
    have hS4:=HMwD_8_13_5_9.out;refine hK.out _ _ (fun _=>hS4) ?_;clear hK K;refine wpAnyT_takeV 12 (some 79) (.agg (rowCs A va vi vp (.slice pa pr.length pc) S L).toArray) rfl rfl (by kernel_rfl) (fun _ _ _ h=>h) hS4 (Or.inl ⟨by rfl,?_⟩) ?_
    ·(intro w' hSw;exact ybuild _ (by simp only [Array.toList_map,List.map_cons,List.map_nil];exact row_built A va vi vp pa pr.length pc HS32.out (L:Int)) rfl)
    simp only [Act.put,yB,yC,yD];refine wpAnyT_one 14 rfl (by kernel_rfl) rfl ?_;intro K hK;refine wp_store_row 107 (.tmp 13) (.tmp 79) rfl rb (rowCs A va vi vp (.slice pa pr.length pc) S L).toArray rfl rfl 107 zs.toArray HFB.out (by rw [List.size_toArray,HC.out];exact row_info) (HZL.out.trans HC.out.symm) HDO.out ?_;obtain ⟨wD_8_13_5_9_14,hwD_8_13_5_9_14⟩:∃ y,y=wD_8_13_5_9.setRow rb (rowCs A va vi vp (.slice pa pr.length pc) S L).toArray:=⟨_,rfl⟩
    rw [<- hwD_8_13_5_9_14];have HRF:=zh (show wD_8_13_5_9_14.heap[rb]? = some (.cells (rowCs A va vi vp (.slice pa pr.length pc) S L).toArray 107 (0,0)) by rw [hwD_8_13_5_9_14];exact setRow_heap _ _ _ _ _ _ HFB.out);have HMwD_8_13_5_9_14:=zh (show Mod No wD wD_8_13_5_9_14 by rw [hwD_8_13_5_9_14];exact hS4.setRow (fun h=>absurd h (by have h1:=HRBL.out;omega)) _);clear hwD_8_13_5_9_14;show K _ _
    have hS5:=HMwD_8_13_5_9_14.out;refine hK.out _ _ (fun _=>hS5) ?_;clear hK K;refine wpAnyT_done (by kernel_rfl) ?_ _
    exact ⟨rb,⟨rfl,rfl,rfl,rfl,rfl,rfl,rfl,rfl,rfl,rfl,rfl,rfl,rfl,rfl,rfl,rfl,trivial⟩,HRF.out,HRBL.out,HMwD_8_13_5_9_14.out⟩
  ·intro K hK;obtain ⟨rb,hrb⟩:∃ g,g=wD.heap.size:=⟨_,rfl⟩
   go_simp
   rw [<- hrb];generalize hwwD_13:World.alloc wD _=wD_13;have HFB:=zh (show wD_13.heap[rb]? = some (.cells zs.toArray 107 (0,0)) by rw [<- hwwD_13,hrb,HZS.out];exact heap_alloc_new _ _);have hmwD_13:Mod No wD wD_13:=by rw [<- hwwD_13];exact (Mod.refl No _).alloc _
   have HMwD_13:=zh (hS0.trans hmwD_13);have HRBL:=zh (show wD.heap.size<=rb by rw [hrb];exact hS0.size);clear hwwD_13 hrb hmwD_13;show K _ _
   have hS1:=HMwD_13.out;refine hK.out _ _ (fun _=>hS1) ?_;clear hK K;refine wpAnyT_two 5 8 rfl rfl (by kernel_rfl) rfl rfl ?_ ?_
   ·intro K hK;go_simp
    go_at_call 43
    with_reducible refine (HNA.out wD_13).mono ?_
    rintro e wD_13_5 ⟨rfl,hwD_13_5⟩;have HMwD_13_5:=zh (show Mod No wD wD_13_5 by rw [hwD_13_5];exact hS1);have HFB:=zh (show wD_13_5.heap[rb]? = some (.cells zs.toArray 107 (0,0)) by rw [hwD_13_5];exact HFB.out);clear hwD_13_5;show K _ _
    have hS2:=HMwD_13_5.out;refine hK.out _ _ (fun _=>hS2) ?_;clear hK K;refine wpAnyT_one 8 rfl (by kernel_rfl) rfl ?_;intro K hK;obtain ⟨ga,hga⟩:∃ g,g=wD_13_5.heap.size:=⟨_,rfl⟩
    go_simp
    rw [<- hga];generalize hwwD_13_5_8:World.alloc wD_13_5 _=wD_13_5_8;have HGA:=zh (show wD_13_5_8.heap[ga]? = some (.cells #[.slice aa2 L ac2] 76 (0,0)) by rw [<- hwwD_13_5_8,hga];exact heap_alloc_new _ _);have hmwD_13_5_8:Mod No wD_13_5 wD_13_5_8:=by rw [<- hwwD_13_5_8];exact (Mod.refl No _).alloc _
    have HMwD_13_5_8:=zh (hS2.trans hmwD_13_5_8);have HFB:=zh (hmwD_13_5_8.keep HFB.out (fun f=>f));clear hwwD_13_5_8 hga hmwD_13_5_8;show K _ _
    have hS3:=HMwD_13_5_8.out;refine hK.out _ _ (fun _=>hS3) ?_;clear hK K;refine wpAnyT_one 9 rfl (by kernel_rfl) rfl ?_;intro K hK;go_simp
    go_at_call 46
    with_reducible refine (HOF.out wD_13_5_8 ga hS3 HGA.out).mono ?_
    rintro e wD_13_5_8_9 ⟨rfl,hmwD_13_5_8_9⟩;have HMwD_13_5_8_9:=zh (hS3.trans hmwD_13_5_8_9);have HFB:=zh (hmwD_13_5_8_9.keep HFB.out (fun f=>f));clear hmwD_13_5_8_9;show K _ _
    have hS4:=HMwD_13_5_8_9.out;refine hK.out _ _ (fun _=>hS4) ?_;clear hK K;refine wpAnyT_takeV 12 (some 79) (.agg (rowCs A va vi vp (.slice pa pr.length pc) S L).toArray) rfl rfl (by kernel_rfl) (fun _ _ _ h=>h) hS4 (Or.inl ⟨by rfl,?_⟩) ?_
    ·(intro w' hSw;exact ybuild _ (by simp only [Array.toList_map,List.map_cons,List.map_nil];exact row_built A va vi vp pa pr.length pc HS32.out (L:Int)) rfl)
    simp only [Act.put,yB,yC,yD];refine wpAnyT_one 14 rfl (by kernel_rfl) rfl ?_;intro K hK;refine wp_store_row 107 (.tmp 13) (.tmp 79) rfl rb (rowCs A va vi vp (.slice pa pr.length pc) S L).toArray rfl rfl 107 zs.toArray HFB.out (by rw [List.size_toArray,HC.out];exact row_info) (HZL.out.trans HC.out.symm) HDO.out ?_;obtain ⟨wD_13_5_8_9_14,hwD_13_5_8_9_14⟩:∃ y,y=wD_13_5_8_9.setRow rb (rowCs A va vi vp (.slice pa pr.length pc) S L).toArray:=⟨_,rfl⟩
    rw [<- hwD_13_5_8_9_14];have HRF:=zh (show wD_13_5_8_9_14.heap[rb]? = some (.cells (rowCs A va vi vp (.slice pa pr.length pc) S L).toArray 107 (0,0)) by rw [hwD_13_5_8_9_14];exact setRow_heap _ _ _ _ _ _ HFB.out);have HMwD_13_5_8_9_14:=zh (show Mod No wD wD_13_5_8_9_14 by rw [hwD_13_5_8_9_14];exact hS4.setRow (fun h=>absurd h (by have h1:=HRBL.out;omega)) _);clear hwD_13_5_8_9_14;show K _ _
    have hS5:=HMwD_13_5_8_9_14.out;refine hK.out _ _ (fun _=>hS5) ?_;clear hK K;refine wpAnyT_done (by kernel_rfl) ?_ _
    exact ⟨rb,⟨rfl,rfl,rfl,rfl,rfl,rfl,rfl,rfl,rfl,rfl,rfl,rfl,rfl,rfl,rfl,rfl,trivial⟩,HRF.out,HRBL.out,HMwD_13_5_8_9_14.out⟩
   ·intro K hK;obtain ⟨ga,hga⟩:∃ g,g=wD_13.heap.size:=⟨_,rfl⟩
    go_simp
    rw [<- hga];generalize hwwD_13_8:World.alloc wD_13 _=wD_13_8;have HGA:=zh (show wD_13_8.heap[ga]? = some (.cells #[.slice aa2 L ac2] 76 (0,0)) by rw [<- hwwD_13_8,hga];exact heap_alloc_new _ _);have hmwD_13_8:Mod No wD_13 wD_13_8:=by rw [<- hwwD_13_8];exact (Mod.refl No _).alloc _
    have HMwD_13_8:=zh (hS1.trans hmwD_13_8);have HFB:=zh (hmwD_13_8.keep HFB.out (fun f=>f));clear hwwD_13_8 hga hmwD_13_8;show K _ _
    have hS2:=HMwD_13_8.out;refine hK.out _ _ (fun _=>hS2) ?_;clear hK K;refine wpAnyT_one 5 rfl (by kernel_rfl) rfl ?_;intro K hK;go_simp
    go_at_call 43
    with_reducible refine (HNA.out wD_13_8).mono ?_
    rintro e wD_13_8_5 ⟨rfl,hwD_13_8_5⟩;have HMwD_13_8_5:=zh (show Mod No wD wD_13_8_5 by rw [hwD_13_8_5];exact hS2);have HFB:=zh (show wD_13_8_5.heap[rb]? = some (.cells zs.toArray 107 (0,0)) by rw [hwD_13_8_5];exact HFB.out);have HGA:=zh (show wD_13_8_5.heap[ga]? = some (.cells #[.slice aa2 L ac2] 76 (0,0)) by rw [hwD_13_8_5];exact HGA.out);clear hwD_13_8_5;show K _ _
    have hS3:=HMwD_13_8_5.out;refine hK.out _ _ (fun _=>hS3) ?_;clear hK K;refine wpAnyT_one 9 rfl (by kernel_rfl) rfl ?_;intro K hK;go_simp
    go_at_call 46
    with_reducible refine (HOF.out wD_13_8_5 ga hS3 HGA.out).mono ?_
    rintro e wD_13_8_5_9 ⟨rfl,hmwD_13_8_5_9⟩;have HMwD_13_8_5_9:=zh (hS3.trans hmwD_13_8_5_9);have HFB:=zh (hmwD_13_8_5_9.keep HFB.out (fun f=>f));clear hmwD_13_8_5_9;show K _ _
    have hS4:=HMwD_13_8_5_9.out;refine hK.out _ _ (fun _=>hS4) ?_;clear hK K;refine wpAnyT_takeV 12 (some 79) (.agg (rowCs A va vi vp (.slice pa pr.length pc) S L).toArray) rfl rfl (by kernel_rfl) (fun _ _ _ h=>h) hS4 (Or.inl ⟨by rfl,?_⟩) ?_
    ·(intro w' hSw;exact ybuild _ (by simp only [Array.toList_map,List.map_cons,List.map_nil];exact row_built A va vi vp pa pr.length pc HS32.out (L:Int)) rfl)
    simp only [Act.put,yB,yC,yD];refine wpAnyT_one 14 rfl (by kernel_rfl) rfl ?_;intro K hK;refine wp_store_row 107 (.tmp 13) (.tmp 79) rfl rb (rowCs A va vi vp (.slice pa pr.length pc) S L).toArray rfl rfl 107 zs.toArray HFB.out (by rw [List.size_toArray,HC.out];exact row_info) (HZL.out.trans HC.out.symm) HDO.out ?_;obtain ⟨wD_13_8_5_9_14,hwD_13_8_5_9_14⟩:∃ y,y=wD_13_8_5_9.setRow rb (rowCs A va vi vp (.slice pa pr.length pc) S L).toArray:=⟨_,rfl⟩
    rw [<- hwD_13_8_5_9_14];have HRF:=zh (show wD_13_8_5_9_14.heap[rb]? = some (.cells (rowCs A va vi vp (.slice pa pr.length pc) S L).toArray 107 (0,0)) by rw [hwD_13_8_5_9_14];exact setRow_heap _ _ _ _ _ _ HFB.out);have HMwD_13_8_5_9_14:=zh (show Mod No wD wD_13_8_5_9_14 by rw [hwD_13_8_5_9_14];exact hS4.setRow (fun h=>absurd h (by have h1:=HRBL.out;omega)) _);clear hwD_13_8_5_9_14;show K _ _
    have hS5:=HMwD_13_8_5_9_14.out;refine hK.out _ _ (fun _=>hS5) ?_;clear hK K;refine wpAnyT_done (by kernel_rfl) ?_ _
    exact ⟨rb,⟨rfl,rfl,rfl,rfl,rfl,rfl,rfl,rfl,rfl,rfl,rfl,rfl,rfl,rfl,rfl,rfl,trivial⟩,HRF.out,HRBL.out,HMwD_13_8_5_9_14.out⟩
 rintro a8 w8 ⟨rb,hF8,hrb8,hrbl,hm8⟩;refine hK9 _ _ ?_;obtain ⟨x,hx⟩:∃ x:RwX,x=⟨⟨nameK s.r.n,⟨va,vi,vp,pr⟩,S,L,[]⟩,.slice pa pr.length pc,.slice none 0 0⟩:=⟨_,rfl⟩
 have HX:=zh hx;have HRB8:=zh hrb8;have HRB:=zh (show w8.heap[rb]? = some (.cells (RwX.cells x).toArray 107 (0,0)) by rw [hx,<- HNC.out];exact hrb8);have HW8:=zh (HMD.out.trans hm8);have HP8:=zh (HPD.out.kn hm8);have HS8:=zh (HSLD.out.kn hm8);have HRBL:=zh (show w.heap.size<=rb from Nat.le_trans HMD.out.size hrbl);have HSX:=zh (show x.r.sum.length=32 by rw [hx];exact HS32.out);have HNX:=zh (show x.r.size=(L:Int) by rw [hx]);clear hK9 K9 hrb8 hrbl hm8 HSM HOF HSLD HPD HMD HWD hS0 hx HSL7 HW7 HV7 HP7 H37 H36 H35 H3D HM3 HM5 HNA HC HNC HDO HZS HZL HSZ5 HSZ35 HSZ56;obtain ⟨ts,ds⟩:=a8;obtain ⟨hsz,hds,hs0,hs5,hs6,hs7,hs1,hs2,hs3,hs4,hs215,hs216,hs217,hs218,hs12,hs13,-⟩:=hF8;dsimp only at hsz hds hs0 hs5 hs6 hs7 hs1 hs2 hs3 hs4 hs215 hs216 hs217 hs218 hs12 hs13;subst hds;obtain ⟨c,rfl,hc⟩:=lit219 ts hsz;rw [hc] at hs0;rw [hc] at hs5;rw [hc] at hs6;rw [hc] at hs7;rw [hc] at hs1;rw [hc] at hs2;rw [hc] at hs3;rw [hc] at hs4;rw [hc] at hs215;rw [hc] at hs216;rw [hc] at hs217;rw [hc] at hs218;rw [hc] at hs12;rw [hc] at hs13;simp only [hs0,hs5,hs6,hs7,hs1,hs2,hs3,hs4,hs215,hs216,hs217,hs218,hs12,hs13];clear hc hsz hs0 hs5 hs6 hs7 hs1 hs2 hs3 hs4 hs215 hs216 hs217 hs218 hs12 hs13;have c4:=HW8.out.cell (HRG.out 4 _ rfl) (fun f=>f);have c2:=HW8.out.cell (HRG.out 2 _ rfl) (fun f=>f);rw [HNV.out,HNDS.out] at c2;rw [HLIE.out] at c4;have HRYK:=zh (show x.r=rowK s.r by
  rw [HX.out];show (⟨nameK s.r.n,⟨va,vi,vp,pr⟩,S,L,[]⟩:Rw)=⟨nameK s.r.n,verK s.r.v,smK s.r,szK s.r,ndsK (nameK s.r.n) s.r.needs⟩
  rw [HVV.out,smK_lie,szK_lie,HSS.out,HL.out,HP.out,HLIE.out,HNDS.out];rfl)
 have HAT:=zh (show RwAt w8 x from by
  refine ⟨⟨HSX.out,by rw [HX.out];exact HSMALL.out,by rw [HX.out];exact HP8.out,by rw [HX.out];exact ⟨_,_,_,rfl⟩⟩,by rw [HX.out];exact ⟨[],rfl,fun _ h=>(by cases h),.inl ⟨rfl,rfl,rfl⟩⟩,by rw [HX.out];simp⟩)
 have HSA:=zh HS8.out;have HCL:=zh (show (RwX.cells x).length=39 from RwX.cells_length x HAT.out.ok.sum);have HR10:=zh (HR.out.no HW8.out);have HA10:=zh (HA.out.no HW8.out);have HW10:=zh HW8.out;have HRB10:=zh HRB.out;clear HRG HSB HS HP8 HS8 HRB8 HW8 HRB HNX HSX;go_wp2_with fail
 go_loopw [14] (fun q wr=>q=.int .i64 0/\wr=w8) (fun _ _=>0)
 case atStart=>exact ⟨rfl,rfl⟩
 case round =>
 obtain ⟨rfl,rfl⟩:=hrel;obtain ⟨i0,hi0,hz0,hz1,hz2⟩:=info_parts info_row;obtain ⟨i1,hj0,hj1,hj2,hj3⟩:=info_parts info_u8s;have hBw:B<=wr.heap.size:=Nat.le_trans HBB.out HW10.out.size;have HBw:=zh hBw;clear hBw;generalize hYC:RwX.cells x=YC at HCL;have HYC:=zh hYC;have HRBY:=zh (show wr.heap[rb]? = some (.cells YC.toArray 107 (0,0)) by rw [<- hYC];exact HRB10.out);clear hYC
 go_wp2_with (first
  |(refine wpList_loadrow rfl _ rfl rb YC rfl HCL.out HRBY.out ?_)
  |(refine wpList_bsrow rfl _ rfl YC rfl HCL.out ?_)
  |(at_builtin;refine app_sl _ rfl _ _ 54 rfl B 107 i0 _ 39 128 underlying54 hi0 hz0 hz1 hz2 rfl (by decide) (.slice ra st.length rc) xs.length (xs.flatMap RwX.cells) rfl (own_keepM HR10.out.own ((Mod.refl No wr).alloc _) (fun _ _ f=>f)) No 107 (.slice (some ⟨wr.heap.size,0,none⟩) 1 1) 1 YC rfl (.inr ⟨wr.heap.size,0,1,_,(0,0),rfl,Nat.le_refl _,by unfold maxLen;omega,fun f=>f,heap_alloc_new wr _,by simp,fun i hi=>by simp⟩) (by rw [HCL.out]) (by rw [<- HYC.out];intro u hu;have h9:=rows_one HAT.out.ok;rw [List.all_toArray,List.all_eq_true] at h9;exact h9 u hu) (by unfold maxLen;have h1:=HXL.out;omega) (by have h1:=HXL.out;omega) (Nat.le_trans HBw.out ((Mod.refl No wr).alloc _).size) ?_;intro v7 w11 hown11 hg11 _
    have HM11:=zh ((((Mod.refl No wr).alloc (.cells YC.toArray 107)).weaken (fun _ _ f=>f.elim)).trans (Mod.of_grown (S:=fun q=>B<=q) hg11 (fun k e _=>own_base HR10.out.own e)));have HR11:=zh (RowsM.push (HR10.out.no ((Mod.refl No wr).alloc _)) hg11 (by rw [HYC.out];exact hown11) (HAT.out.keep ((Mod.refl No wr).alloc _) (Apart.no _ _)));have HA11:=zh (ArcsM.beside (HR10.out.no ((Mod.refl No wr).alloc _)) (HA10.out.no ((Mod.refl No wr).alloc _)) (Mod.of_grown hg11 (fun k e _=>e)));have HSA11:=zh ((HSA.out.kn ((Mod.refl No wr).alloc _)).apart (Mod.of_grown hg11 (fun k e _=>e)) (own_apart (HR10.out.no ((Mod.refl No wr).alloc _)).own (by decide)));clear hown11 hg11)
  |(at_builtin;refine app_sl _ rfl _ _ 55 rfl B 76 i1 _ 1 24 underlying55 hj0 hj1 hj2 hj3 rfl (by decide) (.slice aa st.length ac) as'.length (as'.map ArX.v) rfl (own_keepM HA11.out.own ((Mod.refl No w11).alloc _) (fun _ _ f=>f)) No 76 (.slice (some ⟨w11.heap.size,0,none⟩) 1 1) 1 [.slice aa2 L ac2] rfl (.inr ⟨w11.heap.size,0,1,_,(0,0),rfl,Nat.le_refl _,by unfold maxLen;omega,fun f=>f,heap_alloc_new w11 _,by simp,fun i hi=>by simp⟩) rfl (fun u hu=>by rw [List.mem_singleton.1 hu];rfl) (by unfold maxLen;have h1:=HAL.out;omega) (by have h1:=HAL.out;omega) (Nat.le_trans HBw.out (Nat.le_trans HM11.out.size ((Mod.refl No w11).alloc _).size)) ?_
    intro v8 w12 hown12 hg12 _;have HM12:=zh ((((Mod.refl No w11).alloc (.cells #[.slice aa2 L ac2] 76)).weaken (fun _ _ f=>f.elim)).trans (Mod.of_grown (S:=fun q=>B<=q) hg12 (fun k e _=>own_base HA11.out.own e)));have HR12:=zh (RowsM.beside (HR11.out.no ((Mod.refl No w11).alloc _)) (HA11.out.no ((Mod.refl No w11).alloc _)) (Mod.of_grown hg12 (fun k e _=>e)));have HA12:=zh (ArcsM.push (x:=⟨P,.slice aa2 L ac2⟩) (HA11.out.no ((Mod.refl No w11).alloc _)) hg12 hown12 (by show Sl _ _ _ _ P.length _;rw [<- HL.out];exact HSA11.out.kn ((Mod.refl No w11).alloc _)));clear hown12 hg12))
 refine Met.intro (HJ.out _ _ ⟨v7,v8,xs++[x],as'++[⟨P,.slice aa2 L ac2⟩],⟨rfl,rfl,rfl,rfl,rfl,rfl,rfl,rfl,rfl,rfl,rfl,rfl,rfl,rfl,trivial⟩,HR12.out,HA12.out,?_,?_,((HW10.out.weaken (fun _ _ f=>f.elim)).trans HM11.out).trans HM12.out⟩)
 ·rw [HKS.out,List.map_append,List.map_append,HXS.out,List.map_singleton,List.map_singleton,HRYK.out]
 ·rw [HKS.out,List.map_append,List.map_append,HAS.out,List.map_singleton,List.map_singleton,<- HP.out]
end Go.Proofs.YticfcmdjplmaeaaGreatDoor
