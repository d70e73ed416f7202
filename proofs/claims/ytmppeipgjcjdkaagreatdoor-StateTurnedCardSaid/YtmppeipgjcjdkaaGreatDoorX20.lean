/-
  Layers 0 to 14: helps of the laws of indexes. No statement is proved here; no condition.
-/
import Derived.Test.YtmppeipgjcjdkaaGreatDoorX14
import Derived.Test.YtmppeipgjcjdkaaGreatDoorX07
import Derived.Test.YtmppeipgjcjdkaaGreatDoorX19
namespace Go.Proofs.YtmppeipgjcjdkaaGreatDoor
open _root_.Go.Proofs.Tryz
open Go.RowKit Go.Sort
def pinT (p:Pn):List UInt8:=p.name++32 :: (verT p.v++32 :: (hexL p.sum++[10]))
def lockHead:List UInt8:=[108,111,99,107,32,49,10]
structure PnAt (w:World) (x:PnX):Prop where
 ok:PnOk x
 pre:Sl w No 9 x.pv x.p.v.pre.length (strs x.p.v.pre)
 small:Small x.p.v
 ver:x.p.v.ma < 1000000000000000000/\x.p.v.mi < 1000000000000000000/\x.p.v.pa < 1000000000000000000
set_option maxRecDepth 100000 in
set_option maxHeartbeats 16000000 in
theorem locktext_any (L:List PnX) (hL:L.length<=1000000) (v:Value) (w:World) (hok:∀ x ∈ L,PnAt w x) (hv:Sl w No 49 v L.length (L.flatMap PnX.cells)) (hlen:(lockHead++(sortR ltPx L).flatMap fun x=>pinT x.p).length<=1000000000000) :
  Calls prog 15 #[v] w fun e w'=>e=.returned (strV (lockHead++(sortR ltPx L).flatMap fun x=>pinT x.p))/\Mod No w w':=by
 refine calls_hide fun R hR=>?_
 have HPN:=zh (pins_any L hL v w hv (fun y hy=>(hok y hy).ok))
 have HOK:=zh (show ∀ x ∈ sortR ltPx L,PnAt w x from fun x hx=>hok x ((sortR_mem _ _ _).1 hx))
 have HSLN:=zh (show (sortR ltPx L).length=L.length from sortR_length _ _)
 obtain ⟨va,vc,rfl⟩:=hv.len
 clear hok hv
 generalize sortR ltPx L=xs at *
 have HLEN:=zh (show ∀ k,(lockHead++(xs.take k).flatMap fun x=>pinT x.p).length<=(lockHead++xs.flatMap fun x=>pinT x.p).length from fun k=>by
  conv=>rhs;rw [<- List.take_append_drop k xs]
  rw [List.flatMap_append,<- List.append_assoc,List.length_append (bs:=(xs.drop k).flatMap _)]
  omega)
 have HLE:=zh hlen
 obtain ⟨n,hn⟩:∃ n,n=L.length:=⟨_,rfl⟩
 have HNX:=zh (show n=xs.length by rw [HSLN.out];exact hn)
 rw [<- hn] at HPN hL
 rw [<- hn]
 clear hn hlen HSLN
 go_enter func15,ntmps15
 go_wp2_with fail
 with_reducible refine HPN.out.mono ?_
 rintro e w1 ⟨v',rfl,hown,hm1⟩
 have HM1:=zh hm1
 have HRV:=zh (show Sl w1 No 49 v' n (xs.flatMap PnX.cells) from Sl.of_own hown (fun _ _ f=>f))
 obtain ⟨ra,rc,hvv⟩:=HRV.out.len
 subst hvv
 clear hown hm1 HPN
 go_wp2_with fail
 go_loopw [3,5] (fun q3 q5 wr=>∃ k:Nat,k<=n/\q5=.int .i64 (k:Int)/\q3=strV (lockHead++(xs.take k).flatMap fun x=>pinT x.p)/\Mod No w1 wr) (fun _ q _=>n - (intOf q).toNat)
 case atStart=>exact ⟨0,by omega,rfl,rfl,Mod.refl _ _⟩
 case round =>
  obtain ⟨k,hk,rfl,rfl,hm⟩:=hrel
  have HM:=zh hm
  have hk0:(0:Int)<=(k:Int):=Int.natCast_nonneg _
  clear hm
  by_cases hlt:k < n
  ·have hk1:(k:Int) < (n:Int):=by omega
   have hlt2:k < xs.length:=by rw [<- HNX.out];exact hlt
   obtain ⟨b,o,c,hvs,_⟩:=HRV.out.shape (by omega)
   cases hvs
   have HRG:=zh (HM.out.rangeAt (Sl.atM (fun x hx=>PnX.cells_length x (HOK.out x hx).ok.sum) HRV.out hlt2) (fun f=>f))
   have HXK:=zh (HOK.out _ (List.getElem_mem hlt2))
   have HTK:=zh (show (lockHead++(xs.take (k+1)).flatMap fun x=>pinT x.p)=(lockHead++(xs.take k).flatMap fun x=>pinT x.p)++pinT xs[k].p by
    rw [List.take_succ_eq_append_getElem hlt2,List.flatMap_append,List.append_assoc]
    simp)
   have HBD:=zh (show ((lockHead++(xs.take k).flatMap fun x=>pinT x.p)++pinT xs[k].p).length<=1000000000000 by rw [<- HTK.out];exact Nat.le_trans (HLEN.out (k+1)) HLE.out)
   clear HLEN HLE
   generalize xs[k]=y at *
   generalize (lockHead++(xs.take k).flatMap fun x=>pinT x.p)=TX at *
   obtain ⟨pa,pc,hpe⟩:=HXK.out.pre.len
   have HVX0:=zh (fun W (hm:Mod No wr W)=>vtext_any y.p.v y.pv HXK.out.small HXK.out.ver W (HXK.out.pre.kn (HM1.out.trans (HM.out.trans hm))))
   have HHX0:=zh (refhex_any y.p.sum HXK.out.ok.sum)
   have HPT:=zh (show pinT y.p=y.p.name++32 :: (verT y.p.v++32 :: (hexL y.p.sum++[10])) from rfl)
   have HSL:=zh HXK.out.ok.sum
   have HCS:=zh (show PnX.cells y=strV y.p.name :: (verCs y.p.v y.pv++bv y.p.sum) from rfl)
   obtain ⟨cs,hcs⟩:∃ cs,cs=PnX.cells y:=⟨_,rfl⟩
   rw [<- hcs] at HRG HCS
   clear hcs HXK
   generalize hPK:pinT y.p=PK at *
   clear hPK
   obtain ⟨⟨nm,⟨xa,xi,xp,xpr⟩,sm⟩,ypv⟩:=y
   dsimp only at *
   subst hpe
   obtain ⟨pn,hpn⟩:∃ n,n=xpr.length:=⟨_,rfl⟩
   rw [<- hpn] at HVX0 HCS
   clear hpn
   have hpl:=HBD.out
   rw [List.length_append,HPT.out] at hpl
   simp only [List.length_append,List.length_cons,List.length_nil] at hpl
   unfold verCs at HCS
   dsimp only at HCS
   generalize verT ⟨xa,xi,xp,xpr⟩=VT at *
   generalize hexL sm=HX at *
   obtain ⟨S6,hS6⟩:∃ c,c=TX++nm:=⟨_,rfl⟩
   have hlS6:S6.length=TX.length+nm.length:=(congrArg List.length hS6).trans List.length_append
   have HS6:=zh (show TX++nm=S6/\S6.length<=9223372036854775807 from ⟨hS6.symm,by omega⟩)
   obtain ⟨S7,hS7⟩:∃ c,c=S6++[32]:=⟨_,rfl⟩
   have hlS7:S7.length=S6.length+1:=(congrArg List.length hS7).trans List.length_append
   have HS7:=zh (show S6++[32]=S7/\S7.length<=9223372036854775807 from ⟨hS7.symm,by omega⟩)
   obtain ⟨S14,hS14⟩:∃ c,c=S7++VT:=⟨_,rfl⟩
   have hlS14:S14.length=S7.length+VT.length:=(congrArg List.length hS14).trans List.length_append
   have HS14:=zh (show S7++VT=S14/\S14.length<=9223372036854775807 from ⟨hS14.symm,by omega⟩)
   obtain ⟨S15,hS15⟩:∃ c,c=S14++[32]:=⟨_,rfl⟩
   have hlS15:S15.length=S14.length+1:=(congrArg List.length hS15).trans List.length_append
   have HS15:=zh (show S14++[32]=S15/\S15.length<=9223372036854775807 from ⟨hS15.symm,by omega⟩)
   obtain ⟨S22,hS22⟩:∃ c,c=S15++HX:=⟨_,rfl⟩
   have hlS22:S22.length=S15.length+HX.length:=(congrArg List.length hS22).trans List.length_append
   have HS22:=zh (show S15++HX=S22/\S22.length<=9223372036854775807 from ⟨hS22.symm,by omega⟩)
   obtain ⟨S23,hS23⟩:∃ c,c=S22++[10]:=⟨_,rfl⟩
   have hlS23:S23.length=S22.length+1:=(congrArg List.length hS23).trans List.length_append
   have HS23:=zh (show S22++[10]=S23/\S23.length<=9223372036854775807 from ⟨hS23.symm,by omega⟩)
   clear hS6 hlS6 hS7 hlS7 hS14 hlS14 hS15 hlS15 hS22 hlS22 hS23 hlS23
   clear hpl
   go_upto_region 6 with fail
   obtain ⟨wD,hwD⟩:∃ z,z=wr.drew:=⟨_,rfl⟩
   have hmD:Mod No wr wD:=by rw [hwD];exact (Mod.refl No wr).drew
   have HMD:=zh hmD
   have HSM:=zh (show (∀ w',Mod No wD w'->w'.cell? ⟨b,o+k*37,none⟩=some (strV nm))/\(∀ w',Mod No wD w'->w'.rangeAt b (o+k*37+1) [.int .i64 xa,.int .i64 xi,.int .i64 xp,.slice pa pn pc])/\(∀ w',Mod No wD w'->w'.rangeAt b (o+k*37+5) (bv sm)) from
    ⟨fun w' h=>(hmD.trans h).cell (HRG.out 0 _ (by rw [HCS.out];rfl)) (fun f=>f),
     fun w' h=>(hmD.trans h).rangeAt (rangeAt_part (p:=[strV nm]) (q:=[.int .i64 xa,.int .i64 xi,.int .i64 xp,.slice pa pn pc]) (r:=bv sm) (by have h9:=HRG.out;rw [HCS.out] at h9;simpa using h9)) (fun f=>f),
     fun w' h=>(hmD.trans h).rangeAt (rangeAt_part (p:=[strV nm,.int .i64 xa,.int .i64 xi,.int .i64 xp,.slice pa pn pc]) (q:=bv sm) (r:=[]) (by have h9:=HRG.out;rw [HCS.out] at h9;simpa using h9)) (fun f=>f)⟩)
   have HWA:=zh hwD
   have hS0:=Mod.refl No wD
   clear hwD hmD HRG HCS
   refine wp_region_T (fun w'=>Mod No wD w') 99 (by kernel_rfl) ?_
   rw [<- HWA.out]
   clear HWA
   refine yS 0 14 hS0 ?_
   refine yS 1 15 hS0 ?_
   refine yS 2 16 hS0 ?_
   refine yS 3 17 hS0 ?_
   refine yS 4 18 hS0 ?_
   refine yT 5 (some 19) ?_ hS0 ?_ ?_
   rotate_left
   ·(intro w' hSw;have q0:=HSM.out.1 w' hSw;go_simp;try with_reducible rfl)
   simp only [Act.put,yB,yC,yD]
   refine yT 6 (some 20) (.string ⟨S6.toArray⟩) hS0 ?_ ?_
   ·(intro w' hSw;apply ycat HS6.out (.tmp 14) (.tmp 19) <;> rfl)
   simp only [Act.put,yB,yC,yD]
   refine yT 7 (some 21) (.string ⟨S7.toArray⟩) hS0 ?_ ?_
   ·(intro w' hSw;apply ycat HS7.out (.tmp 20) (.const (.string ⟨#[32]⟩)) <;> rfl)
   simp only [Act.put,yB,yC,yD]
   refine yS 8 22 hS0 ?_
   refine yS 9 23 hS0 ?_
   refine yS 10 24 hS0 ?_
   refine yS 11 25 hS0 ?_
   refine yT 12 (some 26) (verV ⟨xa,xi,xp,xpr⟩ (.slice pa pn pc)) hS0 ?_ ?_
   ·(intro w' hSw;apply yloadv (run_loadVar_mid w' b (o+k*37+1) 45 [.int .i64 xa,.int .i64 xi,.int .i64 xp,.slice pa pn pc] _ (HSM.out.2.1 w' hSw) underlying45 rfl (by kernel_rfl)) (.tmp 25) <;> rfl)
   simp only [Act.put,yB,yC,yD]
   refine yS 16 30 hS0 ?_
   refine yS 17 31 hS0 ?_
   refine yS 18 32 hS0 ?_
   refine yS 19 33 hS0 ?_
   refine yT 20 (some 34) (keyV sm) hS0 ?_ ?_
   ·(intro w' hSw;apply yloadv (run_loadVar_mid w' b (o+k*37+5) 47 (bv sm) _ (HSM.out.2.2 w' hSw) underlying47 rfl (by rw [bv_length,HSL.out];kernel_rfl)) (.tmp 33) <;> rfl)
   simp only [Act.put,yB,yC,yD]
   refine wpAnyT_one 13 rfl (by kernel_rfl) rfl ?_
   intro K hK
   go_simp
   go_at_call 42
   with_reducible refine (HVX0.out wD HMD.out).mono ?_
   rintro e wE ⟨rfl,hwE⟩
   have HMwE:=zh (hS0.trans hwE)
   clear hwE
   show K _ _
   have hS1:=HMwE.out
   refine hK.out _ _ (fun _=>hS1) ?_
   clear hK K
   refine yT 14 (some 28) (.string ⟨S14.toArray⟩) hS1 ?_ ?_
   ·(intro w' hSw;apply ycat HS14.out (.tmp 21) (.tmp 27) <;> rfl)
   simp only [Act.put,yB,yC,yD]
   refine yT 15 (some 29) (.string ⟨S15.toArray⟩) hS1 ?_ ?_
   ·(intro w' hSw;apply ycat HS15.out (.tmp 28) (.const (.string ⟨#[32]⟩)) <;> rfl)
   simp only [Act.put,yB,yC,yD]
   refine wpAnyT_one 21 rfl (by kernel_rfl) rfl ?_
   intro K hK
   go_simp
   go_at_call 43
   with_reducible refine (HHX0.out _).mono ?_
   rintro e wF ⟨rfl,hwF⟩
   have HMwF:=zh (hS1.trans hwF)
   clear hwF
   show K _ _
   have hS2:=HMwF.out
   refine hK.out _ _ (fun _=>hS2) ?_
   clear hK K
   refine yT 22 (some 36) (.string ⟨S22.toArray⟩) hS2 ?_ ?_
   ·(intro w' hSw;apply ycat HS22.out (.tmp 29) (.tmp 35) <;> rfl)
   simp only [Act.put,yB,yC,yD]
   refine yT 23 (some 37) (.string ⟨S23.toArray⟩) hS2 ?_ ?_
   ·(intro w' hSw;apply ycat HS23.out (.tmp 36) (.const (.string ⟨#[10]⟩)) <;> rfl)
   simp only [Act.put,yB,yC,yD]
   refine yT 24 (some 3) ?_ hS2 ?_ ?_
   rotate_left
   ·(intro w' hSw;go_simp;try with_reducible rfl)
   simp only [Act.put]
   refine wpAnyT_done (by kernel_rfl) ?_ _
   have HMG:=zh (HMD.out.trans hS2)
   clear hS0 hS1 hS2
   have HPK:=zh (show S23=TX++PK by rw [HPT.out];rw [<- HS23.out.1,<- HS22.out.1,<- HS15.out.1,<- HS14.out.1,<- HS7.out.1,<- HS6.out.1];simp)
   go_wp2_with fail
   exact ⟨⟨k+1,by omega,rfl,by rw [HTK.out,<- HPK.out],HM.out.trans HMG.out⟩,by show n - ((k:Int)+1).toNat < n - (k:Int).toNat;omega⟩
  ·obtain rfl:k=n:=by omega
   have hk1:¬ ((k:Int) < (k:Int)):=by omega
   have HMF:=zh (HM1.out.trans HM.out)
   have HFI:=zh (show xs.take k=xs by rw [HNX.out];exact List.take_length)
   go_wp2_with fail
   refine fin hR ⟨?_,HMF.out⟩
   show Ending.returned (strV (lockHead++(xs.take k).flatMap fun x=>pinT x.p))=_
   rw [HFI.out]
end Go.Proofs.YtmppeipgjcjdkaaGreatDoor
