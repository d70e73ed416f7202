/-
  Layers 0 to 14: helps of the laws of indexes. No statement is proved here; no condition.
-/
import Derived.Test.YtgiigemfbebcgaaGreatDoorQ44
import Derived.Test.YtgiigemfbebcgaaGreatDoorQ45
namespace Go.Proofs.YtgiigemfbebcgaaGreatDoor
open _root_.Go.Proofs.Tryz
open Go.RowKit Go.Sort
set_option maxRecDepth 100000 in
set_option maxHeartbeats 16000000 in
theorem spoilt_any (xs:List SrX) (v:Value) (at' x:Int) (gone:Bool) (w:World) (hgl:Gl w) (hv:SvX w No v xs.length (xs.flatMap SrX.cells)) (hx:∀ x ∈ xs,SrIn w x) :
  Calls prog 3 #[v,.int .i64 at',.int .u8 x,.bool gone] w fun e w'=>e=.returned (.bool true)/\Mod No w w':=by
 refine calls_hide fun R hR=>?_
 obtain ⟨va,vc,rfl⟩:=hv.len
 have HV:=zh hv
 have HX:=zh hx
 have HG:=zh hgl
 have HKN:=zh (known_any w hgl)
 obtain ⟨nx,hnx⟩:∃ n,n=xs.length:=⟨_,rfl⟩
 have HNX:=zh hnx
 rw [<- hnx]
 have HLT:=zh (fun (W:World) (hm:Mod No w W)=>show Calls prog 8 #[.slice va nx vc,.int .i64 8] W fun e w'=>(∃ b,e=.returned (.bool b)/\(b=true ↔ xs.length<=8/\∀ x ∈ xs,x.r.needs.length<=4))/\Mod No W w' from by
  rw [hnx]
  exact light_any xs (fun x hx=>by obtain ⟨a,c,e⟩:=(HX.out x hx).needs.len;exact ⟨a,c,e⟩) _ 8 W (HV.out.kn hm))
 have HMD:=zh (fun (W:World) (hm:Mod No w W) (h8:xs.length<=8) (h4:∀ x ∈ xs,x.r.needs.length<=4)=>show Calls prog 9 #[.slice va nx vc] W fun e w'=>(∃ rv av TX,e=.returned (.tuple #[rv,av,.string ⟨List.toArray TX⟩])/\TX.length<=8000)/\Mod No W w' from by
  rw [hnx]
  refine (made_any xs (by omega) _ W (fun x hx=>⟨((HX.out x hx).no hm).needs,by have:=h4 x hx;omega,(HX.out x hx).small⟩) h4 (HV.out.kn hm)).mono fun e w' ⟨⟨rv,av,_,_,he,_⟩,hm2⟩=>⟨⟨rv,av,_,he,?_⟩,hm2⟩
  exact kept_text (xs.map SrX.r) (by rw [List.length_map];omega) (fun r hr=>by
   obtain ⟨x,hx,rfl⟩:=List.mem_map.1 hr
   exact h4 x hx))
 clear hgl hv hx hnx
 go_enter func3,ntmps3
 go_wp2_with fail
 with_reducible refine HKN.out.mono ?_
 rintro e w1 ⟨rfl,hm1⟩
 have HM1:=zh hm1
 clear hm1 HKN
 go_wp2_with fail
 with_reducible refine (HLT.out w1 HM1.out).mono ?_
 rintro e w2 ⟨⟨b,rfl,hb⟩,hm2⟩
 have HM2:=zh (HM1.out.trans hm2)
 have HB:=zh hb
 clear hm2 hb HLT
 rcases b with _ | _
 ·go_wp2_with fail
  exact fin hR ⟨rfl,HM2.out⟩
 ·obtain ⟨h8,h4⟩:=HB.out.1 rfl
  have HMDW:=zh (HMD.out w2 HM2.out h8 h4)
  clear h8 h4 HMD HB
  go_wp2_with fail
  with_reducible refine HMDW.out.mono ?_
  rintro e w3 ⟨⟨rv,av,TX,rfl,hlen⟩,hm3⟩
  have HM3:=zh (HM2.out.trans hm3)
  obtain ⟨c,wb,hcv,hsl,hmb,hfz⟩:=bytes_open w3 TX (by omega)
  obtain ⟨g,hg⟩:∃ g,g=w3.heap.size:=⟨_,rfl⟩
  rw [<- hg] at hcv hsl hfz
  obtain ⟨n,hn⟩:∃ n,n=TX.length:=⟨_,rfl⟩
  rw [<- hn] at hcv hsl hfz hlen
  have HN:=zh hn
  have HSL:=zh hsl
  have HFZ:=zh hfz
  have HGE:=zh (show w.heap.size<=g by rw [hg];exact HM3.out.size)
  have HMB:=zh (HM3.out.trans hmb)
  clear hm3 HMDW hsl hfz hg hmb hn
  generalize (⟨TX.toArray⟩:ByteArray)=ZT at *
  rcases Nat.eq_zero_or_pos n with h0 | h0
  ·subst h0
   have HLL:=zh (show (TX).length<=100000 by rw [<- HN.out];omega)
   have HSB:=zh (show Sl wb No 5 (.slice (some ⟨g,0,none⟩) 0 c) (TX).length (bv (TX)) from (by rw [<- HN.out];exact HSL.out))
   have HMT:=zh (show Mod No w wb from HMB.out)
   obtain ⟨ZL,hZL⟩:∃ Z:ByteArray,Z=⟨(TX).toArray⟩:=⟨_,rfl⟩
   have HCV:=zh (fun (X:World) (hm:Mod No wb X)=>show (convert 29 9 (.slice (some ⟨g,0,none⟩) 0 c)).run prog X=.ok (.string ZL) X by rw [hZL];exact string_of (HSB.out.kn hm) underlying29 underlying5 underlying9)
   have HP:=zh (show Calls prog 11 #[.string ZL] wb fun e w'=>(∃ a n c xs,e=.returned (.tuple #[.slice a n c,.int .i64 (ixI (TX)),.int .i64 (ixE (TX))])/\RowsB w' (.slice a n c) xs/\xs.map RwX.r=ixR (TX))/\Mod No wb w' from by rw [hZL];exact ixparse_b (TX) HLL.out wb (HG.out.stay HMT.out (fun f=>f)))
   have HQ:=zh (fun (X:World)=>show Calls prog 12 #[.string ZL] X fun e w'=>(∃ a n c xs,e=.returned (.tuple #[.slice a n c,.int .i64 (ixI (TX)),.int .i64 (ixE (TX))])/\RowsB w' (.slice a n c) xs/\xs.map RwX.r=ixR (TX))/\Mod No X w' from by rw [hZL];exact ixof_b (TX) HLL.out X)
   clear HLL HSB hZL
   generalize ixI (TX)=ii at *
   generalize ixE (TX)=ee at *
   generalize ixR (TX)=rr at *
   have hcv:=HCV.out wb (Mod.refl _ _)
   go_wp2_with fail
   with_reducible refine HP.out.mono ?_
   rintro e wp ⟨⟨pa,pn,pc,px,rfl,hpb,hpr⟩,hmp⟩
   have HPB:=zh hpb
   have HPR:=zh hpr
   have HMP:=zh hmp
   clear hcv hpb hpr hmp HP
   have hcv:=HCV.out wp HMP.out
   clear HCV
   go_wp2_with fail
   with_reducible refine (HQ.out wp).mono ?_
   rintro e wq ⟨⟨qa,qn,qc,qx,rfl,hqb,hqr⟩,hmq⟩
   have HRQ:=zh (rows_eq px qx (by rw [HPR.out,hqr]) (.slice pa pn pc) (.slice qa qn qc) wq (HPB.out.no hmq).each hqb.each (HPB.out.no hmq).sl hqb.sl)
   have hee:(ee == ee)=true:=by simp
   have hii:(ii == ii)=true:=by simp
   have HMQ:=zh (HMT.out.trans (HMP.out.trans hmq))
   clear hcv hqb hqr hmq HPB HPR HMP HQ
   go_wp2_with fail
   with_reducible refine HRQ.out.mono ?_
   rintro e wr ⟨rfl,hmr⟩
   have HMR:=zh (HMQ.out.trans hmr)
   clear hmr HRQ
   go_wp2_with fail
   exact fin hR ⟨rfl,HMR.out⟩
  ·have hn0:(0:Int) < (n:Int):=by omega
   obtain ⟨i,hi⟩:∃ i:Nat,at' % (n:Int)=(i:Int):=⟨(at' % (n:Int)).toNat,by have:=Int.emod_nonneg at' (show (n:Int) ≠ 0 by omega);omega⟩
   have hin:i < n:=by have:=Int.emod_lt_of_pos at' hn0;omega
   have hi0:(0:Int)<=(i:Int):=Int.natCast_nonneg _
   have hi1:(i:Int) < (n:Int):=by omega
   have HPL:=zh (show Calls prog 10 #[.int .i64 at',.int .i64 (n:Int)] wb fun e w'=>e=.returned (.int .i64 (i:Int))/\wb=w' from by
    have h:=place_any at' n wb hn0 (by omega)
    rw [hi] at h
    exact h)
   clear hi
   have hiT:i < TX.length:=by rw [<- HN.out];exact hin
   have hcell:=HSL.out.cell (i:=i) (by rw [bv_length];exact hiT)
   rw [bv_get _ i hiT,Nat.zero_add] at hcell
   obtain ⟨d,hd⟩:=xor_u8 ((TX[i].toNat:Nat):Int) x
   have hz:=HFZ.out i hin
   generalize ((TX[i].toNat:Nat):Int)=cb at hcell hd
   obtain ⟨l1,hl1⟩:∃ l1,l1=TX.set i d:=⟨_,rfl⟩
   have HL1:=zh (show l1.length=n by rw [hl1,List.length_set,<- HN.out])
   obtain ⟨w5,hw5⟩:∃ z,z=wb.setCell ⟨g,i,none⟩ (.int .u8 (d.toNat:Int)):=⟨_,rfl⟩
   have HS1:=zh (show Sl w5 No 5 (.slice (some ⟨g,0,none⟩) n c) n (bv l1) by rw [hw5,hl1];exact HSL.out.setB i hiT d)
   have HM5:=zh (show Mod No w w5 by rw [hw5];exact HMB.out.then (Mod.cell1 wb g i _) (fun q hq e=>by have:=HGE.out;omega))
   clear hl1 hiT HSL HFZ HMB
   by_cases hgn:gone=true
   ·subst hgn
    go_wp2_with fail
    with_reducible refine HPL.out.mono ?_
    rintro e w4 ⟨rfl,rfl⟩
    go_upto_region 11 with fail
    rw [<- hw5]
    clear hw5 hcell hz hd HPL hcv
    go_wp2_with fail
    go_loopw [14] (fun q wi=>∃ kk:Nat,i<=kk/\kk<=n/\q=.int .i64 (kk:Int)/\Sl wi No 5 (.slice (some ⟨g,0,none⟩) n c) n (bv l1)/\Mod No w wi) (fun q _=>n - (intOf q).toNat)
    case atStart=>exact ⟨i,Nat.le_refl _,by omega,rfl,HS1.out,HM5.out⟩
    case round =>
     obtain ⟨kk,hik,hkn,rfl,hsk,hmk⟩:=hrel
     have HSK:=zh hsk
     have HMK:=zh hmk
     have hk0:(0:Int)<=(kk:Int):=Int.natCast_nonneg _
     clear hsk hmk
     by_cases hlt:kk < n
     ·have hk1:(kk:Int) < (n:Int):=by omega
      have hkT:kk < l1.length:=by rw [HL1.out];exact hlt
      have hck:=HSK.out.cell (i:=kk) (by rw [bv_length];exact hkT)
      rw [bv_get _ kk hkT,Nat.zero_add] at hck
      generalize ((l1[kk].toNat:Nat):Int)=ck at hck
      by_cases h10:ck=10
      ·have h10b:(ck != 10)=false:=by simp [h10]
       clear h10 hkT
       go_wp2_with fail
       go_loopw [13] (fun q wi=>∃ jj:Nat,jj<=i/\q=.int .i64 (jj:Int)/\Sl wi No 5 (.slice (some ⟨g,0,none⟩) n c) n (bv l1)/\Mod No w wi) (fun q _=>(intOf q).toNat)
       case atStart=>exact ⟨i,Nat.le_refl _,rfl,HSK.out,HMK.out⟩
       case round =>
        obtain ⟨jj,hji,rfl,hsj,hmj⟩:=hrel
        have HSJ:=zh hsj
        have HMJ:=zh hmj
        have hj0:(0:Int)<=(jj:Int):=Int.natCast_nonneg _
        clear hsj hmj
        rcases jj with _ | q
        ·go_upto_region 16 with fail
         obtain ⟨wD,hwD⟩:∃ x,x=wr.drew:=⟨_,rfl⟩
         have HWD:=zh hwD
         have HMD:=zh (show Mod No w wD by rw [hwD];exact HMJ.out.drew)
         have HSD:=zh (show Sl wD No 5 (.slice (some ⟨g,0,none⟩) n c) n (bv l1) by rw [hwD];exact HSJ.out.keep (S:=No) ((Mod.refl No wr).drew) (fun _ _ _ f=>f.elim))
         obtain ⟨_,_,c0,hvs,hnc,-,-⟩:=HSD.out.shape h0
         have hcc:c=c0:=by cases hvs;rfl
         rw [<- hcc] at hnc
         obtain ⟨sv,hsv⟩:∃ sv,sv=Value.slice (some ⟨g,0,none⟩) (0) (0):=⟨_,rfl⟩
         obtain ⟨tv,htv⟩:∃ tv,tv=Value.slice (some ⟨g,if c=min (kk+1) n then 0 else 0+min (kk+1) n,none⟩) (n - min (kk+1) n) (c - min (kk+1) n):=⟨_,rfl⟩
         have HSV:=zh (fun W=>by_head g 0 n c (0) (by omega) hnc W)
         have HTV:=zh (fun W=>by_tail g 0 n c (min (kk+1) n) (by omega) hnc W)
         have hbl:(bv l1).length=n:=by rw [bv_length,HL1.out]
         have HSS:=zh (show Sl wD No 5 sv (0) (bv (l1.take (0))) by rw [hsv];have h:=HSD.out.fullB hbl (m:=0) (by omega);rw [show (bv l1).take (0)=bv (l1.take (0)) by simp [bv]] at h;exact h)
         have HSC:=zh (show (sv=.slice none 0 0/\(0)=0/\bv (l1.take (0))=[])\/∃ a0,sv=.slice (some a0) (0) (0)/\(bv (l1.take (0))).length=(0)*1/\∀ j v,(bv (l1.take (0)))[j]? = some v->wD.cell? (a0.add j)=some v from .inr ⟨⟨g,0,none⟩,hsv,by rw [bv_length,List.length_take,HL1.out];omega,fun j v e=>by
          have h:=HSS.out
          rw [hsv] at h
          have h9:=h.cell (i:=j) (List.getElem?_eq_some_iff.1 e).1
          rw [e] at h9
          rw [Addr.add_mid]
          exact h9⟩)
         have HTS:=zh (show Sl wD No 5 tv (n - min (kk+1) n) (bv (l1.drop (min (kk+1) n))) by
          rw [htv]
          have h:=HSD.out.dropN hbl (m:=min (kk+1) n) (by omega)
          rw [show (bv l1).drop (min (kk+1) n)=bv (l1.drop (min (kk+1) n)) by simp [bv]] at h
          by_cases e:c=min (kk+1) n
          ·rw [if_pos e] at h ⊢;exact h
          ·rw [if_neg e] at h ⊢;exact h)
         rw [<- hsv] at HSV
         rw [<- htv] at HTV
         have hS0:=Mod.refl No wD
         have HLB:=zh (show (bv (l1.drop (min (kk+1) n))).length=n - min (kk+1) n by rw [bv_length,List.length_drop,HL1.out])
         clear hsv htv hwD hvs hnc hcc hbl HSD
         refine wp_region_T (fun w'=>Mod No wD w') 99 (by kernel_rfl) ?_
         rw [<- HWD.out]
         refine yT 0 (some 75) ?_ hS0 ?_ ?_
         rotate_left
         ·(intro w' hSw;go_simp;try with_reducible rfl)
         simp only [Act.put,yB,yC,yD]
         refine yT 1 (some 76) ?_ hS0 ?_ ?_
         rotate_left
         ·(intro w' hSw;go_simp;try with_reducible rfl)
         simp only [Act.put,yB,yC,yD]
         refine yT 2 (some 77) ?_ hS0 ?_ ?_
         rotate_left
         ·(intro w' hSw;go_simp;try with_reducible rfl)
         simp only [Act.put,yB,yC,yD]
         refine yT 3 (some 78) sv hS0 ?_ ?_
         ·(intro w' hSw;apply yslice3 (HSV.out w') (.tmp 75) (.tmp 76) (.tmp 77) <;> rfl)
         simp only [Act.put,yB,yC,yD]
         refine yT 4 (some 79) ?_ hS0 ?_ ?_
         rotate_left
         ·(intro w' hSw;go_simp;try with_reducible rfl)
         simp only [Act.put,yB,yC,yD]
         refine yT 5 (some 80) ?_ hS0 ?_ ?_
         rotate_left
         ·(intro w' hSw;go_simp;try with_reducible rfl)
         simp only [Act.put,yB,yC,yD]
         refine wpAnyT_takeV 6 (some 81) (.int .i64 ((kk:Int)+1)) rfl rfl (by kernel_rfl) (fun _ _ _ h=>h) hS0 (Or.inl ⟨by rfl,?_⟩) ?_
         ·(intro w' hSw;have hw9:IntKind.i64.wrap ((kk:Int)+1)=(kk:Int)+1:=(by rw [IntKind.wrap_i64];omega);go_simp;try with_reducible rfl)
         simp only [Act.put,yB,yC,yD]
         refine yT 7 (some 82) ?_ hS0 ?_ ?_
         rotate_left
         ·(intro w' hSw;go_simp;try with_reducible rfl)
         simp only [Act.put,yB,yC,yD]
         refine yT 8 (some 83) ?_ hS0 ?_ ?_
         rotate_left
         ·(intro w' hSw;go_simp;try with_reducible rfl)
         simp only [Act.put,yB,yC,yD]
         refine wpAnyT_takeV 9 (some 84) (.int .i64 ((min (kk+1) n:Nat):Int)) rfl rfl (by kernel_rfl) (fun _ _ _ h=>h) hS0 (Or.inl ⟨by rfl,?_⟩) ?_
         ·(intro w' hSw;apply ymin (.tmp 81) (.tmp 83) <;> rfl)
         simp only [Act.put,yB,yC,yD]
         refine yT 10 (some 85) tv hS0 ?_ ?_
         ·(intro w' hSw;apply yslice1 (HTV.out w') (.tmp 79) (.tmp 84) <;> rfl)
         simp only [Act.put,yB,yC,yD]
         refine wpAnyT_one 11 rfl (by kernel_rfl) rfl ?_
         intro K hK
         refine wp_app_bytes wD (.tmp 78) (.tmp 85) (by rfl) sv 0 (bv (l1.take 0)) (by rfl) HSS.out HSC.out tv (n - min (kk+1) n) (bv (l1.drop (min (kk+1) n))) (by rfl) HTS.out HLB.out (by unfold maxLen;omega) (by omega) ?_
         intro v9 w9 hv9 hm9
         have HV9:=zh hv9
         show K (Act.put _ (some 86) _) _
         have hS1:=hm9
         refine hK.out _ _ (fun _=>hS1) ?_
         clear hK K
         refine yT 12 (some 12) ?_ hS1 ?_ ?_
         rotate_left
         ·(intro w' hSw;go_simp;try with_reducible rfl)
         simp only [Act.put]
         refine wpAnyT_done (by kernel_rfl) ?_ _
         have HMF:=zh (HMD.out.trans hS1)
         clear hS0 hS1
         obtain ⟨a9,c9,hv9⟩:=HV9.out.len
         subst hv9
         obtain ⟨l3,hl3⟩:∃ l3,l3=l1.take 0++l1.drop (min (kk+1) n):=⟨_,rfl⟩
         have hl3n:l3.length=0+(n - min (kk+1) n):=by rw [hl3,List.length_append,List.length_take,List.length_drop,HL1.out];omega
         have hv3:Sl w9 No 5 (.slice a9 l3.length c9) l3.length (bv l3):=by rw [hl3n,hl3];have h:=HV9.out;rw [show bv (l1.take 0)++bv (l1.drop (min (kk+1) n))=bv (l1.take 0++l1.drop (min (kk+1) n)) by simp [bv]] at h;exact h
         rw [<- hl3n]
         have HV3:=zh hv3
         have HL3:=zh (show l3.length<=100000 by omega)
         clear hl3 hl3n hv3 HV9
         have HLL:=zh (show (l3).length<=100000 by exact HL3.out)
         have HSB:=zh (show Sl w9 No 5 (.slice a9 l3.length c9) (l3).length (bv (l3)) from HV3.out)
         have HMT:=zh (show Mod No w w9 from HMF.out)
         obtain ⟨ZL,hZL⟩:∃ Z:ByteArray,Z=⟨(l3).toArray⟩:=⟨_,rfl⟩
         have HCV:=zh (fun (X:World) (hm:Mod No w9 X)=>show (convert 29 9 (.slice a9 l3.length c9)).run prog X=.ok (.string ZL) X by rw [hZL];exact string_of (HSB.out.kn hm) underlying29 underlying5 underlying9)
         have HP:=zh (show Calls prog 11 #[.string ZL] w9 fun e w'=>(∃ a n c xs,e=.returned (.tuple #[.slice a n c,.int .i64 (ixI (l3)),.int .i64 (ixE (l3))])/\RowsB w' (.slice a n c) xs/\xs.map RwX.r=ixR (l3))/\Mod No w9 w' from by rw [hZL];exact ixparse_b (l3) HLL.out w9 (HG.out.stay HMT.out (fun f=>f)))
         have HQ:=zh (fun (X:World)=>show Calls prog 12 #[.string ZL] X fun e w'=>(∃ a n c xs,e=.returned (.tuple #[.slice a n c,.int .i64 (ixI (l3)),.int .i64 (ixE (l3))])/\RowsB w' (.slice a n c) xs/\xs.map RwX.r=ixR (l3))/\Mod No X w' from by rw [hZL];exact ixof_b (l3) HLL.out X)
         clear HLL HSB hZL
         generalize ixI (l3)=ii at *
         generalize ixE (l3)=ee at *
         generalize ixR (l3)=rr at *
         have hcv:=HCV.out w9 (Mod.refl _ _)
         go_wp2_with fail
         with_reducible refine HP.out.mono ?_
         rintro e wp ⟨⟨pa,pn,pc,px,rfl,hpb,hpr⟩,hmp⟩
         have HPB:=zh hpb
         have HPR:=zh hpr
         have HMP:=zh hmp
         clear hcv hpb hpr hmp HP
         have hcv:=HCV.out wp HMP.out
         clear HCV
         go_wp2_with fail
         with_reducible refine (HQ.out wp).mono ?_
         rintro e wq ⟨⟨qa,qn,qc,qx,rfl,hqb,hqr⟩,hmq⟩
         have HRQ:=zh (rows_eq px qx (by rw [HPR.out,hqr]) (.slice pa pn pc) (.slice qa qn qc) wq (HPB.out.no hmq).each hqb.each (HPB.out.no hmq).sl hqb.sl)
         have hee:(ee == ee)=true:=by simp
         have hii:(ii == ii)=true:=by simp
         have HMQ:=zh (HMT.out.trans (HMP.out.trans hmq))
         clear hcv hqb hqr hmq HPB HPR HMP HQ
         go_wp2_with fail
         with_reducible refine HRQ.out.mono ?_
         rintro e wr ⟨rfl,hmr⟩
         have HMR:=zh (HMQ.out.trans hmr)
         clear hmr HRQ
         go_wp2_with fail
         exact fin hR ⟨rfl,HMR.out⟩
        ·have hqn:q < n:=by omega
         have hq1:(0:Int) < ((q+1:Nat):Int):=by omega
         have hqT:q < l1.length:=by rw [HL1.out];exact hqn
         have hcq:=HSJ.out.cell (i:=q) (by rw [bv_length];exact hqT)
         rw [bv_get _ q hqT,Nat.zero_add] at hcq
         generalize ((l1[q].toNat:Nat):Int)=cq at hcq
         have hwq:IntKind.i64.wrap (q:Int)=(q:Int):=by rw [IntKind.wrap_i64];omega
         by_cases h11:cq=10
         ·have h11b:(cq != 10)=false:=by simp [h11]
          clear h11 hqT
          go_upto_region 16 with fail
          obtain ⟨wD,hwD⟩:∃ x,x=wr.drew:=⟨_,rfl⟩
          have HWD:=zh hwD
          have HMD:=zh (show Mod No w wD by rw [hwD];exact HMJ.out.drew)
          have HSD:=zh (show Sl wD No 5 (.slice (some ⟨g,0,none⟩) n c) n (bv l1) by rw [hwD];exact HSJ.out.keep (S:=No) ((Mod.refl No wr).drew) (fun _ _ _ f=>f.elim))
          obtain ⟨_,_,c0,hvs,hnc,-,-⟩:=HSD.out.shape h0
          have hcc:c=c0:=by cases hvs;rfl
          rw [<- hcc] at hnc
          obtain ⟨sv,hsv⟩:∃ sv,sv=Value.slice (some ⟨g,0,none⟩) ((q+1)) ((q+1)):=⟨_,rfl⟩
          obtain ⟨tv,htv⟩:∃ tv,tv=Value.slice (some ⟨g,if c=min (kk+1) n then 0 else 0+min (kk+1) n,none⟩) (n - min (kk+1) n) (c - min (kk+1) n):=⟨_,rfl⟩
          have HSV:=zh (fun W=>by_head g 0 n c ((q+1)) (by omega) hnc W)
          have HTV:=zh (fun W=>by_tail g 0 n c (min (kk+1) n) (by omega) hnc W)
          have hbl:(bv l1).length=n:=by rw [bv_length,HL1.out]
          have HSS:=zh (show Sl wD No 5 sv ((q+1)) (bv (l1.take ((q+1)))) by rw [hsv];have h:=HSD.out.fullB hbl (m:=(q+1)) (by omega);rw [show (bv l1).take ((q+1))=bv (l1.take ((q+1))) by simp [bv]] at h;exact h)
          have HSC:=zh (show (sv=.slice none 0 0/\((q+1))=0/\bv (l1.take ((q+1)))=[])\/∃ a0,sv=.slice (some a0) ((q+1)) ((q+1))/\(bv (l1.take ((q+1)))).length=((q+1))*1/\∀ j v,(bv (l1.take ((q+1))))[j]? = some v->wD.cell? (a0.add j)=some v from .inr ⟨⟨g,0,none⟩,hsv,by rw [bv_length,List.length_take,HL1.out];omega,fun j v e=>by
           have h:=HSS.out
           rw [hsv] at h
           have h9:=h.cell (i:=j) (List.getElem?_eq_some_iff.1 e).1
           rw [e] at h9
           rw [Addr.add_mid]
           exact h9⟩)
          have HTS:=zh (show Sl wD No 5 tv (n - min (kk+1) n) (bv (l1.drop (min (kk+1) n))) by
           rw [htv]
           have h:=HSD.out.dropN hbl (m:=min (kk+1) n) (by omega)
           rw [show (bv l1).drop (min (kk+1) n)=bv (l1.drop (min (kk+1) n)) by simp [bv]] at h
           by_cases e:c=min (kk+1) n
           ·rw [if_pos e] at h ⊢;exact h
           ·rw [if_neg e] at h ⊢;exact h)
          rw [<- hsv] at HSV
          rw [<- htv] at HTV
          have hS0:=Mod.refl No wD
          have HLB:=zh (show (bv (l1.drop (min (kk+1) n))).length=n - min (kk+1) n by rw [bv_length,List.length_drop,HL1.out])
          clear hsv htv hwD hvs hnc hcc hbl HSD
          refine wp_region_T (fun w'=>Mod No wD w') 99 (by kernel_rfl) ?_
          rw [<- HWD.out]
          refine yT 0 (some 75) ?_ hS0 ?_ ?_
          rotate_left
          ·(intro w' hSw;go_simp;try with_reducible rfl)
          simp only [Act.put,yB,yC,yD]
          refine yT 1 (some 76) ?_ hS0 ?_ ?_
          rotate_left
          ·(intro w' hSw;go_simp;try with_reducible rfl)
          simp only [Act.put,yB,yC,yD]
          refine yT 2 (some 77) ?_ hS0 ?_ ?_
          rotate_left
          ·(intro w' hSw;go_simp;try with_reducible rfl)
          simp only [Act.put,yB,yC,yD]
          refine yT 3 (some 78) sv hS0 ?_ ?_
          ·(intro w' hSw;apply yslice3 (HSV.out w') (.tmp 75) (.tmp 76) (.tmp 77) <;> rfl)
          simp only [Act.put,yB,yC,yD]
          refine yT 4 (some 79) ?_ hS0 ?_ ?_
          rotate_left
          ·(intro w' hSw;go_simp;try with_reducible rfl)
          simp only [Act.put,yB,yC,yD]
          refine yT 5 (some 80) ?_ hS0 ?_ ?_
          rotate_left
          ·(intro w' hSw;go_simp;try with_reducible rfl)
          simp only [Act.put,yB,yC,yD]
          refine wpAnyT_takeV 6 (some 81) (.int .i64 ((kk:Int)+1)) rfl rfl (by kernel_rfl) (fun _ _ _ h=>h) hS0 (Or.inl ⟨by rfl,?_⟩) ?_
          ·(intro w' hSw;have hw9:IntKind.i64.wrap ((kk:Int)+1)=(kk:Int)+1:=(by rw [IntKind.wrap_i64];omega);go_simp;try with_reducible rfl)
          simp only [Act.put,yB,yC,yD]
          refine yT 7 (some 82) ?_ hS0 ?_ ?_
          rotate_left
          ·(intro w' hSw;go_simp;try with_reducible rfl)
          simp only [Act.put,yB,yC,yD]
          refine yT 8 (some 83) ?_ hS0 ?_ ?_
          rotate_left
          ·(intro w' hSw;go_simp;try with_reducible rfl)
          simp only [Act.put,yB,yC,yD]
          refine wpAnyT_takeV 9 (some 84) (.int .i64 ((min (kk+1) n:Nat):Int)) rfl rfl (by kernel_rfl) (fun _ _ _ h=>h) hS0 (Or.inl ⟨by rfl,?_⟩) ?_
          ·(intro w' hSw;apply ymin (.tmp 81) (.tmp 83) <;> rfl)
          simp only [Act.put,yB,yC,yD]
          refine yT 10 (some 85) tv hS0 ?_ ?_
          ·(intro w' hSw;apply yslice1 (HTV.out w') (.tmp 79) (.tmp 84) <;> rfl)
          simp only [Act.put,yB,yC,yD]
          refine wpAnyT_one 11 rfl (by kernel_rfl) rfl ?_
          intro K hK
          refine wp_app_bytes wD (.tmp 78) (.tmp 85) (by rfl) sv (q+1) (bv (l1.take (q+1))) (by rfl) HSS.out HSC.out tv (n - min (kk+1) n) (bv (l1.drop (min (kk+1) n))) (by rfl) HTS.out HLB.out (by unfold maxLen;omega) (by omega) ?_
          intro v9 w9 hv9 hm9
          have HV9:=zh hv9
          show K (Act.put _ (some 86) _) _
          have hS1:=hm9
          refine hK.out _ _ (fun _=>hS1) ?_
          clear hK K
          refine yT 12 (some 12) ?_ hS1 ?_ ?_
          rotate_left
          ·(intro w' hSw;go_simp;try with_reducible rfl)
          simp only [Act.put]
          refine wpAnyT_done (by kernel_rfl) ?_ _
          have HMF:=zh (HMD.out.trans hS1)
          clear hS0 hS1
          obtain ⟨a9,c9,hv9⟩:=HV9.out.len
          subst hv9
          obtain ⟨l3,hl3⟩:∃ l3,l3=l1.take (q+1)++l1.drop (min (kk+1) n):=⟨_,rfl⟩
          have hl3n:l3.length=(q+1)+(n - min (kk+1) n):=by rw [hl3,List.length_append,List.length_take,List.length_drop,HL1.out];omega
          have hv3:Sl w9 No 5 (.slice a9 l3.length c9) l3.length (bv l3):=by rw [hl3n,hl3];have h:=HV9.out;rw [show bv (l1.take (q+1))++bv (l1.drop (min (kk+1) n))=bv (l1.take (q+1)++l1.drop (min (kk+1) n)) by simp [bv]] at h;exact h
          rw [<- hl3n]
          have HV3:=zh hv3
          have HL3:=zh (show l3.length<=100000 by omega)
          clear hl3 hl3n hv3 HV9
          have HLL:=zh (show (l3).length<=100000 by exact HL3.out)
          have HSB:=zh (show Sl w9 No 5 (.slice a9 l3.length c9) (l3).length (bv (l3)) from HV3.out)
          have HMT:=zh (show Mod No w w9 from HMF.out)
          obtain ⟨ZL,hZL⟩:∃ Z:ByteArray,Z=⟨(l3).toArray⟩:=⟨_,rfl⟩
          have HCV:=zh (fun (X:World) (hm:Mod No w9 X)=>show (convert 29 9 (.slice a9 l3.length c9)).run prog X=.ok (.string ZL) X by rw [hZL];exact string_of (HSB.out.kn hm) underlying29 underlying5 underlying9)
          have HP:=zh (show Calls prog 11 #[.string ZL] w9 fun e w'=>(∃ a n c xs,e=.returned (.tuple #[.slice a n c,.int .i64 (ixI (l3)),.int .i64 (ixE (l3))])/\RowsB w' (.slice a n c) xs/\xs.map RwX.r=ixR (l3))/\Mod No w9 w' from by rw [hZL];exact ixparse_b (l3) HLL.out w9 (HG.out.stay HMT.out (fun f=>f)))
          have HQ:=zh (fun (X:World)=>show Calls prog 12 #[.string ZL] X fun e w'=>(∃ a n c xs,e=.returned (.tuple #[.slice a n c,.int .i64 (ixI (l3)),.int .i64 (ixE (l3))])/\RowsB w' (.slice a n c) xs/\xs.map RwX.r=ixR (l3))/\Mod No X w' from by rw [hZL];exact ixof_b (l3) HLL.out X)
          clear HLL HSB hZL
          generalize ixI (l3)=ii at *
          generalize ixE (l3)=ee at *
          generalize ixR (l3)=rr at *
          have hcv:=HCV.out w9 (Mod.refl _ _)
          go_wp2_with fail
          with_reducible refine HP.out.mono ?_
          rintro e wp ⟨⟨pa,pn,pc,px,rfl,hpb,hpr⟩,hmp⟩
          have HPB:=zh hpb
          have HPR:=zh hpr
          have HMP:=zh hmp
          clear hcv hpb hpr hmp HP
          have hcv:=HCV.out wp HMP.out
          clear HCV
          go_wp2_with fail
          with_reducible refine (HQ.out wp).mono ?_
          rintro e wq ⟨⟨qa,qn,qc,qx,rfl,hqb,hqr⟩,hmq⟩
          have HRQ:=zh (rows_eq px qx (by rw [HPR.out,hqr]) (.slice pa pn pc) (.slice qa qn qc) wq (HPB.out.no hmq).each hqb.each (HPB.out.no hmq).sl hqb.sl)
          have hee:(ee == ee)=true:=by simp
          have hii:(ii == ii)=true:=by simp
          have HMQ:=zh (HMT.out.trans (HMP.out.trans hmq))
          clear hcv hqb hqr hmq HPB HPR HMP HQ
          go_wp2_with fail
          with_reducible refine HRQ.out.mono ?_
          rintro e wr ⟨rfl,hmr⟩
          have HMR:=zh (HMQ.out.trans hmr)
          clear hmr HRQ
          go_wp2_with fail
          exact fin hR ⟨rfl,HMR.out⟩
         ·have h11b:(cq != 10)=true:=by simpa using h11
          clear h11 hqT
          go_wp2_with fail
          exact ⟨⟨q,by omega,rfl,HSJ.out,HMJ.out⟩,by show (q:Int).toNat < ((q+1:Nat):Int).toNat;omega⟩
      ·have h10b:(ck != 10)=true:=by simpa using h10
       clear h10 hkT
       go_wp2_with fail
       exact ⟨⟨kk+1,by omega,by omega,rfl,HSK.out,HMK.out⟩,by show n - ((kk:Int)+1).toNat < n - (kk:Int).toNat;omega⟩
     ·have hk1:¬ ((kk:Int) < (n:Int)):=by omega
      go_wp2_with fail
      go_loopw [13] (fun q wi=>∃ jj:Nat,jj<=i/\q=.int .i64 (jj:Int)/\Sl wi No 5 (.slice (some ⟨g,0,none⟩) n c) n (bv l1)/\Mod No w wi) (fun q _=>(intOf q).toNat)
      case atStart=>exact ⟨i,Nat.le_refl _,rfl,HSK.out,HMK.out⟩
      case round =>
       obtain ⟨jj,hji,rfl,hsj,hmj⟩:=hrel
       have HSJ:=zh hsj
       have HMJ:=zh hmj
       have hj0:(0:Int)<=(jj:Int):=Int.natCast_nonneg _
       clear hsj hmj
       rcases jj with _ | q
       ·go_upto_region 16 with fail
        obtain ⟨wD,hwD⟩:∃ x,x=wr.drew:=⟨_,rfl⟩
        have HWD:=zh hwD
        have HMD:=zh (show Mod No w wD by rw [hwD];exact HMJ.out.drew)
        have HSD:=zh (show Sl wD No 5 (.slice (some ⟨g,0,none⟩) n c) n (bv l1) by rw [hwD];exact HSJ.out.keep (S:=No) ((Mod.refl No wr).drew) (fun _ _ _ f=>f.elim))
        obtain ⟨_,_,c0,hvs,hnc,-,-⟩:=HSD.out.shape h0
        have hcc:c=c0:=by cases hvs;rfl
        rw [<- hcc] at hnc
        obtain ⟨sv,hsv⟩:∃ sv,sv=Value.slice (some ⟨g,0,none⟩) (0) (0):=⟨_,rfl⟩
        obtain ⟨tv,htv⟩:∃ tv,tv=Value.slice (some ⟨g,if c=min (kk+1) n then 0 else 0+min (kk+1) n,none⟩) (n - min (kk+1) n) (c - min (kk+1) n):=⟨_,rfl⟩
        have HSV:=zh (fun W=>by_head g 0 n c (0) (by omega) hnc W)
        have HTV:=zh (fun W=>by_tail g 0 n c (min (kk+1) n) (by omega) hnc W)
        have hbl:(bv l1).length=n:=by rw [bv_length,HL1.out]
        have HSS:=zh (show Sl wD No 5 sv (0) (bv (l1.take (0))) by rw [hsv];have h:=HSD.out.fullB hbl (m:=0) (by omega);rw [show (bv l1).take (0)=bv (l1.take (0)) by simp [bv]] at h;exact h)
        have HSC:=zh (show (sv=.slice none 0 0/\(0)=0/\bv (l1.take (0))=[])\/∃ a0,sv=.slice (some a0) (0) (0)/\(bv (l1.take (0))).length=(0)*1/\∀ j v,(bv (l1.take (0)))[j]? = some v->wD.cell? (a0.add j)=some v from .inr ⟨⟨g,0,none⟩,hsv,by rw [bv_length,List.length_take,HL1.out];omega,fun j v e=>by
         have h:=HSS.out
         rw [hsv] at h
         have h9:=h.cell (i:=j) (List.getElem?_eq_some_iff.1 e).1
         rw [e] at h9
         rw [Addr.add_mid]
         exact h9⟩)
        have HTS:=zh (show Sl wD No 5 tv (n - min (kk+1) n) (bv (l1.drop (min (kk+1) n))) by
         rw [htv]
         have h:=HSD.out.dropN hbl (m:=min (kk+1) n) (by omega)
         rw [show (bv l1).drop (min (kk+1) n)=bv (l1.drop (min (kk+1) n)) by simp [bv]] at h
         by_cases e:c=min (kk+1) n
         ·rw [if_pos e] at h ⊢;exact h
         ·rw [if_neg e] at h ⊢;exact h)
        rw [<- hsv] at HSV
        rw [<- htv] at HTV
        have hS0:=Mod.refl No wD
        have HLB:=zh (show (bv (l1.drop (min (kk+1) n))).length=n - min (kk+1) n by rw [bv_length,List.length_drop,HL1.out])
        clear hsv htv hwD hvs hnc hcc hbl HSD
        refine wp_region_T (fun w'=>Mod No wD w') 99 (by kernel_rfl) ?_
        rw [<- HWD.out]
        refine yT 0 (some 75) ?_ hS0 ?_ ?_
        rotate_left
        ·(intro w' hSw;go_simp;try with_reducible rfl)
        simp only [Act.put,yB,yC,yD]
        refine yT 1 (some 76) ?_ hS0 ?_ ?_
        rotate_left
        ·(intro w' hSw;go_simp;try with_reducible rfl)
        simp only [Act.put,yB,yC,yD]
        refine yT 2 (some 77) ?_ hS0 ?_ ?_
        rotate_left
        ·(intro w' hSw;go_simp;try with_reducible rfl)
        simp only [Act.put,yB,yC,yD]
        refine yT 3 (some 78) sv hS0 ?_ ?_
        ·(intro w' hSw;apply yslice3 (HSV.out w') (.tmp 75) (.tmp 76) (.tmp 77) <;> rfl)
        simp only [Act.put,yB,yC,yD]
        refine yT 4 (some 79) ?_ hS0 ?_ ?_
        rotate_left
        ·(intro w' hSw;go_simp;try with_reducible rfl)
        simp only [Act.put,yB,yC,yD]
        refine yT 5 (some 80) ?_ hS0 ?_ ?_
        rotate_left
        ·(intro w' hSw;go_simp;try with_reducible rfl)
        simp only [Act.put,yB,yC,yD]
        refine wpAnyT_takeV 6 (some 81) (.int .i64 ((kk:Int)+1)) rfl rfl (by kernel_rfl) (fun _ _ _ h=>h) hS0 (Or.inl ⟨by rfl,?_⟩) ?_
        ·(intro w' hSw;have hw9:IntKind.i64.wrap ((kk:Int)+1)=(kk:Int)+1:=(by rw [IntKind.wrap_i64];omega);go_simp;try with_reducible rfl)
        simp only [Act.put,yB,yC,yD]
        refine yT 7 (some 82) ?_ hS0 ?_ ?_
        rotate_left
        ·(intro w' hSw;go_simp;try with_reducible rfl)
        simp only [Act.put,yB,yC,yD]
        refine yT 8 (some 83) ?_ hS0 ?_ ?_
        rotate_left
        ·(intro w' hSw;go_simp;try with_reducible rfl)
        simp only [Act.put,yB,yC,yD]
        refine wpAnyT_takeV 9 (some 84) (.int .i64 ((min (kk+1) n:Nat):Int)) rfl rfl (by kernel_rfl) (fun _ _ _ h=>h) hS0 (Or.inl ⟨by rfl,?_⟩) ?_
        ·(intro w' hSw;apply ymin (.tmp 81) (.tmp 83) <;> rfl)
        simp only [Act.put,yB,yC,yD]
        refine yT 10 (some 85) tv hS0 ?_ ?_
        ·(intro w' hSw;apply yslice1 (HTV.out w') (.tmp 79) (.tmp 84) <;> rfl)
        simp only [Act.put,yB,yC,yD]
        refine wpAnyT_one 11 rfl (by kernel_rfl) rfl ?_
        intro K hK
        refine wp_app_bytes wD (.tmp 78) (.tmp 85) (by rfl) sv 0 (bv (l1.take 0)) (by rfl) HSS.out HSC.out tv (n - min (kk+1) n) (bv (l1.drop (min (kk+1) n))) (by rfl) HTS.out HLB.out (by unfold maxLen;omega) (by omega) ?_
        intro v9 w9 hv9 hm9
        have HV9:=zh hv9
        show K (Act.put _ (some 86) _) _
        have hS1:=hm9
        refine hK.out _ _ (fun _=>hS1) ?_
        clear hK K
        refine yT 12 (some 12) ?_ hS1 ?_ ?_
        rotate_left
        ·(intro w' hSw;go_simp;try with_reducible rfl)
        simp only [Act.put]
        refine wpAnyT_done (by kernel_rfl) ?_ _
        have HMF:=zh (HMD.out.trans hS1)
        clear hS0 hS1
        obtain ⟨a9,c9,hv9⟩:=HV9.out.len
        subst hv9
        obtain ⟨l3,hl3⟩:∃ l3,l3=l1.take 0++l1.drop (min (kk+1) n):=⟨_,rfl⟩
        have hl3n:l3.length=0+(n - min (kk+1) n):=by rw [hl3,List.length_append,List.length_take,List.length_drop,HL1.out];omega
        have hv3:Sl w9 No 5 (.slice a9 l3.length c9) l3.length (bv l3):=by rw [hl3n,hl3];have h:=HV9.out;rw [show bv (l1.take 0)++bv (l1.drop (min (kk+1) n))=bv (l1.take 0++l1.drop (min (kk+1) n)) by simp [bv]] at h;exact h
        rw [<- hl3n]
        have HV3:=zh hv3
        have HL3:=zh (show l3.length<=100000 by omega)
        clear hl3 hl3n hv3 HV9
        have HLL:=zh (show (l3).length<=100000 by exact HL3.out)
        have HSB:=zh (show Sl w9 No 5 (.slice a9 l3.length c9) (l3).length (bv (l3)) from HV3.out)
        have HMT:=zh (show Mod No w w9 from HMF.out)
        obtain ⟨ZL,hZL⟩:∃ Z:ByteArray,Z=⟨(l3).toArray⟩:=⟨_,rfl⟩
        have HCV:=zh (fun (X:World) (hm:Mod No w9 X)=>show (convert 29 9 (.slice a9 l3.length c9)).run prog X=.ok (.string ZL) X by rw [hZL];exact string_of (HSB.out.kn hm) underlying29 underlying5 underlying9)
        have HP:=zh (show Calls prog 11 #[.string ZL] w9 fun e w'=>(∃ a n c xs,e=.returned (.tuple #[.slice a n c,.int .i64 (ixI (l3)),.int .i64 (ixE (l3))])/\RowsB w' (.slice a n c) xs/\xs.map RwX.r=ixR (l3))/\Mod No w9 w' from by rw [hZL];exact ixparse_b (l3) HLL.out w9 (HG.out.stay HMT.out (fun f=>f)))
        have HQ:=zh (fun (X:World)=>show Calls prog 12 #[.string ZL] X fun e w'=>(∃ a n c xs,e=.returned (.tuple #[.slice a n c,.int .i64 (ixI (l3)),.int .i64 (ixE (l3))])/\RowsB w' (.slice a n c) xs/\xs.map RwX.r=ixR (l3))/\Mod No X w' from by rw [hZL];exact ixof_b (l3) HLL.out X)
        clear HLL HSB hZL
        generalize ixI (l3)=ii at *
        generalize ixE (l3)=ee at *
        generalize ixR (l3)=rr at *
        have hcv:=HCV.out w9 (Mod.refl _ _)
        go_wp2_with fail
        with_reducible refine HP.out.mono ?_
        rintro e wp ⟨⟨pa,pn,pc,px,rfl,hpb,hpr⟩,hmp⟩
        have HPB:=zh hpb
        have HPR:=zh hpr
        have HMP:=zh hmp
        clear hcv hpb hpr hmp HP
        have hcv:=HCV.out wp HMP.out
        clear HCV
        go_wp2_with fail
        with_reducible refine (HQ.out wp).mono ?_
        rintro e wq ⟨⟨qa,qn,qc,qx,rfl,hqb,hqr⟩,hmq⟩
        have HRQ:=zh (rows_eq px qx (by rw [HPR.out,hqr]) (.slice pa pn pc) (.slice qa qn qc) wq (HPB.out.no hmq).each hqb.each (HPB.out.no hmq).sl hqb.sl)
        have hee:(ee == ee)=true:=by simp
        have hii:(ii == ii)=true:=by simp
        have HMQ:=zh (HMT.out.trans (HMP.out.trans hmq))
        clear hcv hqb hqr hmq HPB HPR HMP HQ
        go_wp2_with fail
        with_reducible refine HRQ.out.mono ?_
        rintro e wr ⟨rfl,hmr⟩
        have HMR:=zh (HMQ.out.trans hmr)
        clear hmr HRQ
        go_wp2_with fail
        exact fin hR ⟨rfl,HMR.out⟩
       ·have hqn:q < n:=by omega
        have hq1:(0:Int) < ((q+1:Nat):Int):=by omega
        have hqT:q < l1.length:=by rw [HL1.out];exact hqn
        have hcq:=HSJ.out.cell (i:=q) (by rw [bv_length];exact hqT)
        rw [bv_get _ q hqT,Nat.zero_add] at hcq
        generalize ((l1[q].toNat:Nat):Int)=cq at hcq
        have hwq:IntKind.i64.wrap (q:Int)=(q:Int):=by rw [IntKind.wrap_i64];omega
        by_cases h11:cq=10
        ·have h11b:(cq != 10)=false:=by simp [h11]
         clear h11 hqT
         go_upto_region 16 with fail
         obtain ⟨wD,hwD⟩:∃ x,x=wr.drew:=⟨_,rfl⟩
         have HWD:=zh hwD
         have HMD:=zh (show Mod No w wD by rw [hwD];exact HMJ.out.drew)
         have HSD:=zh (show Sl wD No 5 (.slice (some ⟨g,0,none⟩) n c) n (bv l1) by rw [hwD];exact HSJ.out.keep (S:=No) ((Mod.refl No wr).drew) (fun _ _ _ f=>f.elim))
         obtain ⟨_,_,c0,hvs,hnc,-,-⟩:=HSD.out.shape h0
         have hcc:c=c0:=by cases hvs;rfl
         rw [<- hcc] at hnc
         obtain ⟨sv,hsv⟩:∃ sv,sv=Value.slice (some ⟨g,0,none⟩) ((q+1)) ((q+1)):=⟨_,rfl⟩
         obtain ⟨tv,htv⟩:∃ tv,tv=Value.slice (some ⟨g,if c=min (kk+1) n then 0 else 0+min (kk+1) n,none⟩) (n - min (kk+1) n) (c - min (kk+1) n):=⟨_,rfl⟩
         have HSV:=zh (fun W=>by_head g 0 n c ((q+1)) (by omega) hnc W)
         have HTV:=zh (fun W=>by_tail g 0 n c (min (kk+1) n) (by omega) hnc W)
         have hbl:(bv l1).length=n:=by rw [bv_length,HL1.out]
         have HSS:=zh (show Sl wD No 5 sv ((q+1)) (bv (l1.take ((q+1)))) by rw [hsv];have h:=HSD.out.fullB hbl (m:=(q+1)) (by omega);rw [show (bv l1).take ((q+1))=bv (l1.take ((q+1))) by simp [bv]] at h;exact h)
         have HSC:=zh (show (sv=.slice none 0 0/\((q+1))=0/\bv (l1.take ((q+1)))=[])\/∃ a0,sv=.slice (some a0) ((q+1)) ((q+1))/\(bv (l1.take ((q+1)))).length=((q+1))*1/\∀ j v,(bv (l1.take ((q+1))))[j]? = some v->wD.cell? (a0.add j)=some v from .inr ⟨⟨g,0,none⟩,hsv,by rw [bv_length,List.length_take,HL1.out];omega,fun j v e=>by
          have h:=HSS.out
          rw [hsv] at h
          have h9:=h.cell (i:=j) (List.getElem?_eq_some_iff.1 e).1
          rw [e] at h9
          rw [Addr.add_mid]
          exact h9⟩)
         have HTS:=zh (show Sl wD No 5 tv (n - min (kk+1) n) (bv (l1.drop (min (kk+1) n))) by
          rw [htv]
          have h:=HSD.out.dropN hbl (m:=min (kk+1) n) (by omega)
          rw [show (bv l1).drop (min (kk+1) n)=bv (l1.drop (min (kk+1) n)) by simp [bv]] at h
          by_cases e:c=min (kk+1) n
          ·rw [if_pos e] at h ⊢;exact h
          ·rw [if_neg e] at h ⊢;exact h)
         rw [<- hsv] at HSV
         rw [<- htv] at HTV
         have hS0:=Mod.refl No wD
         have HLB:=zh (show (bv (l1.drop (min (kk+1) n))).length=n - min (kk+1) n by rw [bv_length,List.length_drop,HL1.out])
         clear hsv htv hwD hvs hnc hcc hbl HSD
         refine wp_region_T (fun w'=>Mod No wD w') 99 (by kernel_rfl) ?_
         rw [<- HWD.out]
         refine yT 0 (some 75) ?_ hS0 ?_ ?_
         rotate_left
         ·(intro w' hSw;go_simp;try with_reducible rfl)
         simp only [Act.put,yB,yC,yD]
         refine yT 1 (some 76) ?_ hS0 ?_ ?_
         rotate_left
         ·(intro w' hSw;go_simp;try with_reducible rfl)
         simp only [Act.put,yB,yC,yD]
         refine yT 2 (some 77) ?_ hS0 ?_ ?_
         rotate_left
         ·(intro w' hSw;go_simp;try with_reducible rfl)
         simp only [Act.put,yB,yC,yD]
         refine yT 3 (some 78) sv hS0 ?_ ?_
         ·(intro w' hSw;apply yslice3 (HSV.out w') (.tmp 75) (.tmp 76) (.tmp 77) <;> rfl)
         simp only [Act.put,yB,yC,yD]
         refine yT 4 (some 79) ?_ hS0 ?_ ?_
         rotate_left
         ·(intro w' hSw;go_simp;try with_reducible rfl)
         simp only [Act.put,yB,yC,yD]
         refine yT 5 (some 80) ?_ hS0 ?_ ?_
         rotate_left
         ·(intro w' hSw;go_simp;try with_reducible rfl)
         simp only [Act.put,yB,yC,yD]
         refine wpAnyT_takeV 6 (some 81) (.int .i64 ((kk:Int)+1)) rfl rfl (by kernel_rfl) (fun _ _ _ h=>h) hS0 (Or.inl ⟨by rfl,?_⟩) ?_
         ·(intro w' hSw;have hw9:IntKind.i64.wrap ((kk:Int)+1)=(kk:Int)+1:=(by rw [IntKind.wrap_i64];omega);go_simp;try with_reducible rfl)
         simp only [Act.put,yB,yC,yD]
         refine yT 7 (some 82) ?_ hS0 ?_ ?_
         rotate_left
         ·(intro w' hSw;go_simp;try with_reducible rfl)
         simp only [Act.put,yB,yC,yD]
         refine yT 8 (some 83) ?_ hS0 ?_ ?_
         rotate_left
         ·(intro w' hSw;go_simp;try with_reducible rfl)
         simp only [Act.put,yB,yC,yD]
         refine wpAnyT_takeV 9 (some 84) (.int .i64 ((min (kk+1) n:Nat):Int)) rfl rfl (by kernel_rfl) (fun _ _ _ h=>h) hS0 (Or.inl ⟨by rfl,?_⟩) ?_
         ·(intro w' hSw;apply ymin (.tmp 81) (.tmp 83) <;> rfl)
         simp only [Act.put,yB,yC,yD]
         refine yT 10 (some 85) tv hS0 ?_ ?_
         ·(intro w' hSw;apply yslice1 (HTV.out w') (.tmp 79) (.tmp 84) <;> rfl)
         simp only [Act.put,yB,yC,yD]
         refine wpAnyT_one 11 rfl (by kernel_rfl) rfl ?_
         intro K hK
         refine wp_app_bytes wD (.tmp 78) (.tmp 85) (by rfl) sv (q+1) (bv (l1.take (q+1))) (by rfl) HSS.out HSC.out tv (n - min (kk+1) n) (bv (l1.drop (min (kk+1) n))) (by rfl) HTS.out HLB.out (by unfold maxLen;omega) (by omega) ?_
         intro v9 w9 hv9 hm9
         have HV9:=zh hv9
         show K (Act.put _ (some 86) _) _
         have hS1:=hm9
         refine hK.out _ _ (fun _=>hS1) ?_
         clear hK K
         refine yT 12 (some 12) ?_ hS1 ?_ ?_
         rotate_left
         ·(intro w' hSw;go_simp;try with_reducible rfl)
         simp only [Act.put]
         refine wpAnyT_done (by kernel_rfl) ?_ _
         have HMF:=zh (HMD.out.trans hS1)
         clear hS0 hS1
         obtain ⟨a9,c9,hv9⟩:=HV9.out.len
         subst hv9
         obtain ⟨l3,hl3⟩:∃ l3,l3=l1.take (q+1)++l1.drop (min (kk+1) n):=⟨_,rfl⟩
         have hl3n:l3.length=(q+1)+(n - min (kk+1) n):=by rw [hl3,List.length_append,List.length_take,List.length_drop,HL1.out];omega
         have hv3:Sl w9 No 5 (.slice a9 l3.length c9) l3.length (bv l3):=by rw [hl3n,hl3];have h:=HV9.out;rw [show bv (l1.take (q+1))++bv (l1.drop (min (kk+1) n))=bv (l1.take (q+1)++l1.drop (min (kk+1) n)) by simp [bv]] at h;exact h
         rw [<- hl3n]
         have HV3:=zh hv3
         have HL3:=zh (show l3.length<=100000 by omega)
         clear hl3 hl3n hv3 HV9
         have HLL:=zh (show (l3).length<=100000 by exact HL3.out)
         have HSB:=zh (show Sl w9 No 5 (.slice a9 l3.length c9) (l3).length (bv (l3)) from HV3.out)
         have HMT:=zh (show Mod No w w9 from HMF.out)
         obtain ⟨ZL,hZL⟩:∃ Z:ByteArray,Z=⟨(l3).toArray⟩:=⟨_,rfl⟩
         have HCV:=zh (fun (X:World) (hm:Mod No w9 X)=>show (convert 29 9 (.slice a9 l3.length c9)).run prog X=.ok (.string ZL) X by rw [hZL];exact string_of (HSB.out.kn hm) underlying29 underlying5 underlying9)
         have HP:=zh (show Calls prog 11 #[.string ZL] w9 fun e w'=>(∃ a n c xs,e=.returned (.tuple #[.slice a n c,.int .i64 (ixI (l3)),.int .i64 (ixE (l3))])/\RowsB w' (.slice a n c) xs/\xs.map RwX.r=ixR (l3))/\Mod No w9 w' from by rw [hZL];exact ixparse_b (l3) HLL.out w9 (HG.out.stay HMT.out (fun f=>f)))
         have HQ:=zh (fun (X:World)=>show Calls prog 12 #[.string ZL] X fun e w'=>(∃ a n c xs,e=.returned (.tuple #[.slice a n c,.int .i64 (ixI (l3)),.int .i64 (ixE (l3))])/\RowsB w' (.slice a n c) xs/\xs.map RwX.r=ixR (l3))/\Mod No X w' from by rw [hZL];exact ixof_b (l3) HLL.out X)
         clear HLL HSB hZL
         generalize ixI (l3)=ii at *
         generalize ixE (l3)=ee at *
         generalize ixR (l3)=rr at *
         have hcv:=HCV.out w9 (Mod.refl _ _)
         go_wp2_with fail
         with_reducible refine HP.out.mono ?_
         rintro e wp ⟨⟨pa,pn,pc,px,rfl,hpb,hpr⟩,hmp⟩
         have HPB:=zh hpb
         have HPR:=zh hpr
         have HMP:=zh hmp
         clear hcv hpb hpr hmp HP
         have hcv:=HCV.out wp HMP.out
         clear HCV
         go_wp2_with fail
         with_reducible refine (HQ.out wp).mono ?_
         rintro e wq ⟨⟨qa,qn,qc,qx,rfl,hqb,hqr⟩,hmq⟩
         have HRQ:=zh (rows_eq px qx (by rw [HPR.out,hqr]) (.slice pa pn pc) (.slice qa qn qc) wq (HPB.out.no hmq).each hqb.each (HPB.out.no hmq).sl hqb.sl)
         have hee:(ee == ee)=true:=by simp
         have hii:(ii == ii)=true:=by simp
         have HMQ:=zh (HMT.out.trans (HMP.out.trans hmq))
         clear hcv hqb hqr hmq HPB HPR HMP HQ
         go_wp2_with fail
         with_reducible refine HRQ.out.mono ?_
         rintro e wr ⟨rfl,hmr⟩
         have HMR:=zh (HMQ.out.trans hmr)
         clear hmr HRQ
         go_wp2_with fail
         exact fin hR ⟨rfl,HMR.out⟩
        ·have h11b:(cq != 10)=true:=by simpa using h11
         clear h11 hqT
         go_wp2_with fail
         exact ⟨⟨q,by omega,rfl,HSJ.out,HMJ.out⟩,by show (q:Int).toNat < ((q+1:Nat):Int).toNat;omega⟩
   ·obtain rfl:gone=false:=by simpa using hgn
    go_wp2_with fail
    with_reducible refine HPL.out.mono ?_
    rintro e w4 ⟨rfl,rfl⟩
    go_upto_region 17 with fail
    rw [<- hw5]
    clear hw5 hcell hz hd HPL hcv hgn
    have HN1:=zh (show n=l1.length from HL1.out.symm)
    have HLL:=zh (show (l1).length<=100000 by rw [HL1.out];omega)
    have HSB:=zh (show Sl w5 No 5 (.slice (some ⟨g,0,none⟩) n c) (l1).length (bv (l1)) from (by rw [HL1.out];exact HS1.out))
    have HMT:=zh (show Mod No w w5 from HM5.out)
    obtain ⟨ZL,hZL⟩:∃ Z:ByteArray,Z=⟨(l1).toArray⟩:=⟨_,rfl⟩
    have HCV:=zh (fun (X:World) (hm:Mod No w5 X)=>show (convert 29 9 (.slice (some ⟨g,0,none⟩) n c)).run prog X=.ok (.string ZL) X by rw [hZL];exact string_of (HSB.out.kn hm) underlying29 underlying5 underlying9)
    have HP:=zh (show Calls prog 11 #[.string ZL] w5 fun e w'=>(∃ a n c xs,e=.returned (.tuple #[.slice a n c,.int .i64 (ixI (l1)),.int .i64 (ixE (l1))])/\RowsB w' (.slice a n c) xs/\xs.map RwX.r=ixR (l1))/\Mod No w5 w' from by rw [hZL];exact ixparse_b (l1) HLL.out w5 (HG.out.stay HMT.out (fun f=>f)))
    have HQ:=zh (fun (X:World)=>show Calls prog 12 #[.string ZL] X fun e w'=>(∃ a n c xs,e=.returned (.tuple #[.slice a n c,.int .i64 (ixI (l1)),.int .i64 (ixE (l1))])/\RowsB w' (.slice a n c) xs/\xs.map RwX.r=ixR (l1))/\Mod No X w' from by rw [hZL];exact ixof_b (l1) HLL.out X)
    clear HLL HSB hZL
    generalize ixI (l1)=ii at *
    generalize ixE (l1)=ee at *
    generalize ixR (l1)=rr at *
    have hcv:=HCV.out w5 (Mod.refl _ _)
    go_wp2_with fail
    with_reducible refine HP.out.mono ?_
    rintro e wp ⟨⟨pa,pn,pc,px,rfl,hpb,hpr⟩,hmp⟩
    have HPB:=zh hpb
    have HPR:=zh hpr
    have HMP:=zh hmp
    clear hcv hpb hpr hmp HP
    have hcv:=HCV.out wp HMP.out
    clear HCV
    go_wp2_with fail
    with_reducible refine (HQ.out wp).mono ?_
    rintro e wq ⟨⟨qa,qn,qc,qx,rfl,hqb,hqr⟩,hmq⟩
    have HRQ:=zh (rows_eq px qx (by rw [HPR.out,hqr]) (.slice pa pn pc) (.slice qa qn qc) wq (HPB.out.no hmq).each hqb.each (HPB.out.no hmq).sl hqb.sl)
    have hee:(ee == ee)=true:=by simp
    have hii:(ii == ii)=true:=by simp
    have HMQ:=zh (HMT.out.trans (HMP.out.trans hmq))
    clear hcv hqb hqr hmq HPB HPR HMP HQ
    go_wp2_with fail
    with_reducible refine HRQ.out.mono ?_
    rintro e wr ⟨rfl,hmr⟩
    have HMR:=zh (HMQ.out.trans hmr)
    clear hmr HRQ
    go_wp2_with fail
    exact fin hR ⟨rfl,HMR.out⟩
theorem spoilt_walk (a:Option Addr) (len cap:Nat) (xs:List SrX) {w:World} (h:SrsIn w a len xs) (hc:len<=cap/\cap<=maxLen\/len=0) (at':Int) (_:(Lit.int .i64 at').wf=true) (x:Int) (_:(Lit.int .u8 x).wf=true) (gone:Bool) (hgl:Gl w) :
  Calls prog 3 #[.slice a len cap,.int .i64 at',.int .u8 x,.bool gone] w fun e w'=>e=.returned (.bool true)/\Mod No w w':=by
 obtain ⟨hl,hx,hs⟩:=h
 have h1:=hs cap hc
 rw [<- hl] at h1
 rw [<- hl]
 exact spoilt_any xs _ at' x gone w hgl h1 hx
end Go.Proofs.YtgiigemfbebcgaaGreatDoor
