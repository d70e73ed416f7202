/-
  Layers 0 to 14: helps of the laws of indexes. No statement is proved here; no condition.
-/
import Derived.Test.YtgiigemfbebcgaaGreatDoorT09
import Derived.Test.YtgiigemfbebcgaaGreatDoorT11
import Derived.Test.YtgiigemfbebcgaaGreatDoorT20
namespace Go.Proofs.YtgiigemfbebcgaaGreatDoor
open _root_.Go.Proofs.Tryz
open Go.RowKit
theorem head_at {l:List UInt8} {k:Nat} (hk:k < l.length) (hno:∀ i (hi:i < l.length),i < k->l[i] ≠ 45) (hc:l[k]=45):45 ∈ l/\headC 45 l=l.take k/\tailC 45 l=l.drop (k+1):=by
 have e:l=l.take k++45 :: l.drop (k+1):=by
  conv=>lhs;rw [<- List.take_append_drop k l]
  rw [List.drop_eq_getElem_cons hk,hc]
 have hn:∀ d ∈ l.take k,d ≠ 45:=fun d hd=>by
  obtain ⟨i,hi,rfl⟩:=List.getElem_of_mem hd
  rw [List.length_take] at hi
  rw [List.getElem_take]
  exact hno _ (by omega) (by omega)
 refine ⟨by rw [e];simp,?_,?_⟩
 ·conv=>lhs;rw [e]
  exact headC_hit _ hn
 ·conv=>lhs;rw [e]
  exact tailC_hit _ hn
set_option maxRecDepth 100000 in
set_option maxHeartbeats 4000000 in
theorem versionof_any (l:List UInt8) (hl:l.length<=1000000) (w:World) :
  Calls prog 24 #[strV l] w fun e w'=>((verOf l=none/\e=.returned (.tuple #[verV ⟨0,0,0,[]⟩ (.slice none 0 0),.int .i64 60]))\/∃ v pv,verOf l=some v/\e=.returned (.tuple #[verV v pv,.int .i64 0])/\Sl w' No 9 pv v.pre.length (strs v.pre))/\Mod No w w':=by
 refine calls_hide fun R hR=>?_
 have HX:=zh (run_at l)
 have HEX:=zh (str_to l)
 have HEF:=zh (str_from l)
 have HZ:=zh (str_len3 l)
 have HSP:=zh (show ∀ m:List UInt8,m.length<=l.length->∀ w:World,Calls prog 44 #[strV m,.int .u8 46] w fun e w'=>∃ v,e=.returned v/\w'.ownsRow w.heap.size 9 1 v (splitC 46 m).length (strs (splitC 46 m))/\Mod No w w' from fun m h w=>refsplit_any 46 m (by omega) w)
 have HNUM:=zh (fun m (h:m.length<=l.length)=>refnumber_any m (by omega))
 have HMK:=zh (fun m (h:m.length<=l.length)=>refmark_any m (by omega))
 have HSM:=zh (splitC_mem_le 46)
 have HSL:=zh (splitC_length_le 46)
 have HVL:=zh (verOf_len (l:=l))
 unfold strV at *
 generalize hZe:(⟨l.toArray⟩:ByteArray)=Z at *
 have HZE:=zh hZe
 clear hZe
 have hZs:(Z.size:Int)=(l.length:Int):=by rw [HZ.out]
 go_enter func24,ntmps24
 go_upto_region 1 with fail
 obtain ⟨rb,hrb⟩:∃ g,g=w.heap.size:=⟨_,rfl⟩
 rw [<- hrb]
 generalize hw1:World.alloc w _=w1
 have HM1:=zh (show Mod No w w1 by rw [<- hw1];exact (Mod.refl No w).alloc _)
 have HR1:=zh (show w1.heap[rb]? = some (.cells #[.int .i64 0,.int .i64 0,.int .i64 0,.slice none 0 0] 40 (0,0)) by rw [<- hw1,hrb];exact heap_alloc_new w _)
 have HRB:=zh hrb
 clear hw1 hrb
 go_upto_region 2 with fail
 obtain ⟨vb,hvb⟩:∃ g,g=w1.heap.size:=⟨_,rfl⟩
 rw [<- hvb]
 generalize hw2:World.alloc w1 _=w2
 have HM2:=zh (show Mod No w w2 by rw [<- hw2];exact HM1.out.alloc _)
 have HR2:=zh (show w2.heap[rb]? = some (.cells #[.int .i64 0,.int .i64 0,.int .i64 0,.slice none 0 0] 40 (0,0)) by rw [<- hw2];exact heap_alloc_old _ HR1.out)
 have HV2:=zh (show w2.heap[vb]? = some (.cells #[.int .i64 0,.int .i64 0,.int .i64 0,.slice none 0 0] 40 (0,0)) by rw [<- hw2,hvb];exact heap_alloc_new w1 _)
 have HVB:=zh (show rb < vb by rw [hvb];exact lt_of_heap HR1.out)
 clear hw2 hvb HM1 HR1
 go_wp2_with fail
 go_loopw [5,6] (fun cv q wr=>∃ k:Nat,k<=l.length/\cv=.string Z/\q=.int .i64 k/\wr=w2/\∀ i (hi:i < l.length),i < k->l[i] ≠ 45) (fun _ q _=>l.length - (intOf q).toNat)
 case atStart=>exact ⟨0,by omega,rfl,rfl,rfl,fun i _ hi=>absurd hi (by omega)⟩
 case round =>
  obtain ⟨k,hk,rfl,rfl,rfl,hno⟩:=hrel
  have hk0:(0:Int)<=(k:Int):=Int.natCast_nonneg _
  by_cases hlt:k < l.length
  ·have hk1:(k:Int) < (Z.size:Int):=by omega
   have hidx:=HX.out k hlt
   by_cases h45:l[k]=45
   ·obtain ⟨hmem,hhd,htl⟩:=head_at hlt hno h45
    have HCO:=zh hhd
    have HPO:=zh (show preOf l=splitC 46 (l.drop (k+1)) by unfold preOf;rw [if_pos hmem,htl])
    have HPK0:=zh (show preOk l=(decide ((preOf l).length<=5) && (preOf l).all markB) by unfold preOk;rw [decide_eq_false (fun h=>h hmem),Bool.false_or])
    have hco:(l.take k).length<=l.length:=by rw [List.length_take];omega
    have htl2:(l.drop (k+1)).length<=l.length:=by rw [List.length_drop];omega
    have hto:=HEX.out k
    have hfrom:=HEF.out (k+1)
    rw [h45] at hidx
    clear hno hmem hhd htl
    go_wp2_with fail
    with_reducible refine (HSP.out _ htl2 _).mono ?_
    rintro e w7 ⟨pv,rfl,hown,hm7⟩
    rw [<- HPO.out] at hown
    have HP7:=zh (Sl.of_own (X:=No) hown (fun _ _ f=>f))
    obtain ⟨qa,qc,rfl⟩:=HP7.out.len
    have HM7:=zh (HM2.out.trans hm7)
    have HR7:=zh (hm7.keep HR2.out (fun f=>f))
    have HV7:=zh (hm7.keep HV2.out (fun f=>f))
    have hps:∀ x ∈ preOf l,x.length<=l.length:=fun x hx=>by
     rw [HPO.out] at hx
     have:=HSM.out _ x hx
     omega
    have hpl:(preOf l).length<=1000001:=by
     rw [HPO.out]
     have:=HSL.out (l.drop (k+1))
     omega
    clear hm7 hown HM2 HR2 HV2 HPO
    obtain ⟨pr,hpr⟩:∃ p,p=preOf l:=⟨_,rfl⟩
    rw [<- hpr] at HP7 HPK0 hps hpl
    rw [<- hpr]
    have HPO:=zh hpr.symm
    clear hpr
    obtain ⟨⟨c0,c1,c2,c3⟩,f0,f1,f2,f3⟩:=cells4 HV7.out
    go_upto_region 9 with fail
    have HV8:=zh (show (w7.setCell ⟨vb,3,none⟩ (.slice qa pr.length qc)).heap[vb]? = some (.cells #[.int .i64 0,.int .i64 0,.int .i64 0,.slice qa pr.length qc] 40 (0,0)) by rw [heap_setCell HV7.out];rfl)
    have HM8:=zh (show Mod No w (w7.setCell ⟨vb,3,none⟩ (.slice qa pr.length qc)) from HM7.out.setCell (fun h=>by have:=HRB.out;have:=HVB.out;dsimp only at h;omega) _)
    have HR8:=zh (show (w7.setCell ⟨vb,3,none⟩ (.slice qa pr.length qc)).heap[rb]? = some (.cells #[.int .i64 0,.int .i64 0,.int .i64 0,.slice none 0 0] 40 (0,0)) by rw [heap_setCell_ne _ (by have:=HVB.out;dsimp only;omega)];exact HR7.out)
    have HP8:=zh (show Sl (w7.setCell ⟨vb,3,none⟩ (.slice qa pr.length qc)) No 9 (.slice qa pr.length qc) pr.length (strs pr) from HP7.out.keep (S:=fun p=>p=vb) (Mod.cell1 w7 vb 3 _) (fun k cur fz hk _ hc=>by subst hk;rw [HV7.out] at hc;cases hc))
    generalize w7.setCell ⟨vb,3,none⟩ (.slice qa pr.length qc)=w8 at *
    clear c0 c1 c2 c3 f0 f1 f2 f3 HR7 HV7 HM7 HP7
    obtain ⟨⟨c0,c1,c2,c3⟩,-⟩:=cells4 HV8.out
    by_cases h5:(5:Int) < (pr.length:Int)
    ·have HN:=zh (show verOf l=none by
      match hs:splitC 46 (headC 45 l) with
      | [a,b,c]=>rw [verOf_three hs,HPK0.out,decide_eq_false (by omega:¬ pr.length<=5)];simp
      | []=>exact verOf_len (by rw [hs];decide)
      | [_]=>exact verOf_len (by rw [hs];simp)
      | [_,_]=>exact verOf_len (by rw [hs];simp)
      | _ :: _ :: _ :: _ :: _=>exact verOf_len (by rw [hs];simp))
     obtain ⟨⟨d0,d1,d2,d3⟩,g0,g1,g2,g3⟩:=cells4 HR8.out
     go_wp2_with fail
     have hl:=load_ver (set4 HR8.out (.int .i64 0) (.int .i64 0) (.int .i64 0) (.slice none 0 0))
     have HMz:=zh (HM8.out.set4 (b:=rb) (fun h=>by have:=HRB.out;omega) (.int .i64 0) (.int .i64 0) (.int .i64 0) (.slice none 0 0))
     exact bodyPost_ret (v:=.tuple #[verV ⟨0,0,0,[]⟩ (.slice none 0 0),.int .i64 60]) (by simp [results,results24,asAddr,hl]) rfl (fin hR ⟨.inl ⟨HN.out,rfl⟩,HMz.out⟩)
    ·have hq5:pr.length<=5:=by omega
     have HNA:=zh (show pr.all markB=false->verOf l=none from fun hq=>by
      match hs:splitC 46 (headC 45 l) with
      | [a,b,c]=>rw [verOf_three hs,HPK0.out,hq,Bool.and_false];simp
      | []=>exact verOf_len (by rw [hs];decide)
      | [_]=>exact verOf_len (by rw [hs];simp)
      | [_,_]=>exact verOf_len (by rw [hs];simp)
      | _ :: _ :: _ :: _ :: _=>exact verOf_len (by rw [hs];simp))
     go_wp2_with fail
     go_loopw [7] (fun q wr=>∃ j:Nat,j<=pr.length/\q=.int .i64 j/\wr=w8/\∀ i (hi:i < pr.length),i < j->markB pr[i]=true) (fun q _=>pr.length - (intOf q).toNat)
     case atStart=>exact ⟨0,by omega,rfl,rfl,fun i _ hi=>absurd hi (by omega)⟩
     case round =>
      obtain ⟨j,hj,rfl,rfl,hall⟩:=hrel
      have hj0:(0:Int)<=(j:Int):=Int.natCast_nonneg _
      have HAL:=zh hall
      clear hall
      by_cases hjt:j < pr.length
      ·have hj1:(j:Int) < (pr.length:Int):=by omega
       obtain ⟨pb,po,pc2,hpv,_⟩:=HP8.out.shape (by omega)
       cases hpv
       have hcell:wr.cell? ⟨pb,po+j,none⟩=some (strV pr[j]):=by
        have:=HP8.out.cellN (i:=j) (by rw [strs_length];exact hjt)
        rw [this];simp [strs]
       have hlj:=hps pr[j] (List.getElem_mem hjt)
       have HMJ:=zh (HMK.out pr[j] hlj)
       have HFJ:=zh (show markB pr[j]=false->pr.all markB=false from fun h=>by
        rw [<- Bool.not_eq_true,List.all_eq_true]
        intro hh
        rw [hh _ (List.getElem_mem hjt)] at h
        cases h)
       have HNJ:=zh (show markB pr[j]=true->∀ i (hi:i < pr.length),i < j+1->markB pr[i]=true from fun h i hi hij=>by
        rcases Nat.lt_or_ge i j with h3 | h3
        ·exact HAL.out i hi h3
        ·obtain rfl:i=j:=by omega
         exact h)
       generalize pr[j]=pj at *
       go_wp2_with fail
       with_reducible refine (HMJ.out _).mono ?_
       rintro e w9 ⟨rfl,rfl⟩
       rcases hb:markB pj with _ | _
       ·have HN:=zh (HNA.out (HFJ.out hb))
        obtain ⟨⟨d0,d1,d2,d3⟩,g0,g1,g2,g3⟩:=cells4 HR8.out
        go_wp2_with fail
        have hl:=load_ver (set4 HR8.out (.int .i64 0) (.int .i64 0) (.int .i64 0) (.slice none 0 0))
        have HMz:=zh (HM8.out.set4 (b:=rb) (fun h=>by have:=HRB.out;omega) (.int .i64 0) (.int .i64 0) (.int .i64 0) (.slice none 0 0))
        exact bodyPost_ret (v:=.tuple #[verV ⟨0,0,0,[]⟩ (.slice none 0 0),.int .i64 60]) (by simp [results,results24,asAddr,hl]) rfl (fin hR ⟨.inl ⟨HN.out,rfl⟩,HMz.out⟩)
       ·go_wp2_with fail
        exact ⟨⟨j+1,by omega,rfl,trivial,HNJ.out hb⟩,by show pr.length - ((j:Int)+1).toNat < pr.length - (j:Int).toNat;omega⟩
      ·have HPK:=zh (show preOk l=true by
        rw [HPK0.out,decide_eq_true hq5,Bool.true_and,List.all_eq_true]
        intro x hx
        obtain ⟨i,hi,rfl⟩:=List.getElem_of_mem hx
        exact HAL.out i hi (by omega))
       clear HAL
       go_wp2_with fail
       have HMX:=HM8
       have HRX:=HR8
       have HVX:=HV8
       have HPX:=HP8
       obtain ⟨prv,hprv⟩:∃ v:Value,v=.slice qa pr.length qc:=⟨_,rfl⟩
       rw [<- hprv] at HVX HPX
       clear HM8 HR8 HV8 HP8 hprv HNA HPK0 c0 c1 c2 c3
       generalize l.take k=co at *
       obtain ⟨va,vc,rfl⟩:=HPX.out.len
       with_reducible refine (HSP.out co hco _).mono ?_
       rintro e w3 ⟨sv,rfl,hown,hm3⟩
       have HM3:=zh (HMX.out.trans hm3)
       have HR3:=zh (hm3.keep HRX.out (fun f=>f))
       have HV3:=zh (hm3.keep HVX.out (fun f=>f))
       have HP3:=zh (HPX.out.kn hm3)
       have HS3:=zh (Sl.of_own (X:=No) hown (fun _ _ f=>f))
       clear hm3 HMX HRX HVX HPX hown
       obtain ⟨sa,sc,rfl⟩:=HS3.out.len
       have hx1:∀ x ∈ splitC 46 co,x.length<=l.length:=fun x hx=>by have:=HSM.out _ x hx;omega
       have hv3:=HVL.out
       have h3v:=fun a b c=>verOf_three (l:=l) (a:=a) (b:=b) (c:=c)
       rw [HCO.out] at hv3 h3v
       generalize splitC 46 co=ps at *
       by_cases h3:ps.length=3
       ·obtain ⟨pA,pB,pC,rfl⟩:∃ pA pB pC,ps=[pA,pB,pC]:=by
         match ps,h3 with
         | [a,b,c],_=>exact ⟨a,b,c,rfl⟩
        have HV:=zh (h3v pA pB pC rfl)
        have hlA:=hx1 pA (by simp)
        have hlB:=hx1 pB (by simp)
        have hlC:=hx1 pC (by simp)
        have e3:[pA,pB,pC].length=3:=rfl
        rw [e3] at HS3
        rw [e3]
        clear hx1 hv3 h3v HVL e3 h3
        obtain ⟨pb,po,pc2,hpv,_⟩:=HS3.out.shape (by decide)
        cases hpv
        have HCA:=zh (show w3.cell? ⟨pb,po,none⟩=some (strV pA) from HS3.out.cellN (i:=0) (by simp))
        have HCB:=zh (show w3.cell? ⟨pb,po+1,none⟩=some (strV pB) from HS3.out.cellN (i:=1) (by simp))
        have HCC:=zh (show w3.cell? ⟨pb,po+2,none⟩=some (strV pC) from HS3.out.cellN (i:=2) (by simp))
        have ca:=HCA.out
        go_wp2_with fail
        with_reducible refine (HNUM.out pA hlA _).mono ?_
        rintro e w3 ⟨⟨nA,rfl,hA⟩,rfl⟩
        have cb:=HCB.out
        have HA:=zh hA
        clear ca hA
        go_wp2_with fail
        with_reducible refine (HNUM.out pB hlB _).mono ?_
        rintro e w3 ⟨⟨nB,rfl,hB⟩,rfl⟩
        have cc:=HCC.out
        have HB:=zh hB
        clear cb hB
        go_wp2_with fail
        with_reducible refine (HNUM.out pC hlC _).mono ?_
        rintro e w3 ⟨⟨nC,rfl,hC⟩,rfl⟩
        have HC:=zh hC
        clear cc hC
        obtain ⟨⟨d0,d1,d2,d3⟩,g0,g1,g2,g3⟩:=cells4 HR3.out
        rcases hbA:numB pA with _ | _
        ·have HN:=zh (show verOf l=none by rw [HV.out,hbA];rfl)
         go_wp2_with fail
         have hl:=load_ver (set4 HR3.out (.int .i64 0) (.int .i64 0) (.int .i64 0) (.slice none 0 0))
         have HMz:=zh (HM3.out.set4 (b:=rb) (fun h=>by have:=HRB.out;omega) (.int .i64 0) (.int .i64 0) (.int .i64 0) (.slice none 0 0))
         exact bodyPost_ret (v:=.tuple #[verV ⟨0,0,0,[]⟩ (.slice none 0 0),.int .i64 60]) (by simp [results,results24,asAddr,hl]) rfl (fin hR ⟨.inl ⟨HN.out,rfl⟩,HMz.out⟩)
        rcases hbB:numB pB with _ | _
        ·have HN:=zh (show verOf l=none by rw [HV.out,hbB];simp)
         go_wp2_with fail
         have hl:=load_ver (set4 HR3.out (.int .i64 0) (.int .i64 0) (.int .i64 0) (.slice none 0 0))
         have HMz:=zh (HM3.out.set4 (b:=rb) (fun h=>by have:=HRB.out;omega) (.int .i64 0) (.int .i64 0) (.int .i64 0) (.slice none 0 0))
         exact bodyPost_ret (v:=.tuple #[verV ⟨0,0,0,[]⟩ (.slice none 0 0),.int .i64 60]) (by simp [results,results24,asAddr,hl]) rfl (fin hR ⟨.inl ⟨HN.out,rfl⟩,HMz.out⟩)
        rcases hbC:numB pC with _ | _
        ·have HN:=zh (show verOf l=none by rw [HV.out,hbC];simp)
         go_wp2_with fail
         have hl:=load_ver (set4 HR3.out (.int .i64 0) (.int .i64 0) (.int .i64 0) (.slice none 0 0))
         have HMz:=zh (HM3.out.set4 (b:=rb) (fun h=>by have:=HRB.out;omega) (.int .i64 0) (.int .i64 0) (.int .i64 0) (.slice none 0 0))
         exact bodyPost_ret (v:=.tuple #[verV ⟨0,0,0,[]⟩ (.slice none 0 0),.int .i64 60]) (by simp [results,results24,asAddr,hl]) rfl (fin hR ⟨.inl ⟨HN.out,rfl⟩,HMz.out⟩)
        obtain rfl:=HA.out hbA
        obtain rfl:=HB.out hbB
        obtain rfl:=HC.out hbC
        have HN:=zh (show verOf l=some ⟨decV pA,decV pB,decV pC,pr⟩ by rw [HV.out,hbA,hbB,hbC,HPK.out,HPO.out];rfl)
        clear HV HA HB HC HCA HCB HCC hbA hbB hbC
        generalize (decV pA:Int)=a at *
        generalize (decV pB:Int)=b at *
        generalize (decV pC:Int)=c at *
        obtain ⟨⟨c0,c1,c2,c3⟩,f0,f1,f2,f3⟩:=cells4 HV3.out
        go_upto_region 25 with fail
        have HV4:=zh (show (((w3.setCell ⟨vb,0,none⟩ (.int .i64 a)).setCell ⟨vb,1,none⟩ (.int .i64 b)).setCell ⟨vb,2,none⟩ (.int .i64 c)).heap[vb]? = some (.cells #[.int .i64 a,.int .i64 b,.int .i64 c,(.slice va pr.length vc)] 40 (0,0)) by rw [heap_setCell (heap_setCell (heap_setCell HV3.out _) _) _];rfl)
        have HM4':=zh (show Mod (fun p=>p=vb) w3 (((w3.setCell ⟨vb,0,none⟩ (.int .i64 a)).setCell ⟨vb,1,none⟩ (.int .i64 b)).setCell ⟨vb,2,none⟩ (.int .i64 c)) from ((Mod.cell1 w3 vb 0 (.int .i64 a)).setCell (p:=⟨vb,1,none⟩) (fun _=>rfl) _).setCell (p:=⟨vb,2,none⟩) (fun _=>rfl) _)
        generalize World.setCell _ ⟨vb,2,none⟩ _=w4 at *
        have HM4:=zh (HM3.out.then HM4'.out (fun i hi e=>by have:=HVB.out;have:=HRB.out;omega))
        have HR4:=zh (HM4'.out.keep HR3.out (fun e=>by have:=HVB.out;omega))
        have HP4:=zh (HP3.out.keep HM4'.out (fun k cur fz hk _ hc=>by subst hk;rw [HV3.out] at hc;cases hc))
        clear c0 c1 c2 c3 f0 f1 f2 f3 d0 d1 d2 d3 g0 g1 g2 g3 HM3 HR3 HV3 HP3 HS3 HM4'
        obtain ⟨⟨c0,c1,c2,c3⟩,-⟩:=cells4 HV4.out
        obtain ⟨⟨d0,d1,d2,d3⟩,g0,g1,g2,g3⟩:=cells4 HR4.out
        go_wp2_with fail
        have hl:=load_ver (set4 HR4.out (.int .i64 a) (.int .i64 b) (.int .i64 c) (.slice va pr.length vc))
        have HMz:=zh (HM4.out.set4 (b:=rb) (fun h=>by have:=HRB.out;omega) (.int .i64 a) (.int .i64 b) (.int .i64 c) (.slice va pr.length vc))
        have HPz:=zh (HP4.out.keep (Mod.set4 (S:=fun p=>p=rb) (b:=rb) (Mod.refl _ w4) (fun _=>rfl) (.int .i64 a) (.int .i64 b) (.int .i64 c) (.slice va pr.length vc)) (fun k cur fz hk _ hc=>by subst hk;rw [HR4.out] at hc;cases hc))
        exact bodyPost_ret (v:=.tuple #[verV ⟨a,b,c,pr⟩ (.slice va pr.length vc),.int .i64 0]) (by simp [results,results24,asAddr,hl]) rfl (fin hR ⟨.inr ⟨_,_,HN.out,rfl,HPz.out⟩,HMz.out⟩)
       ·have h3i:((ps.length:Int) != 3)=true:=by simp;omega
        have HN:=zh (hv3 h3)
        clear hx1 hv3 h3v
        obtain ⟨⟨d0,d1,d2,d3⟩,g0,g1,g2,g3⟩:=cells4 HR3.out
        go_wp2_with fail
        have hl:=load_ver (set4 HR3.out (.int .i64 0) (.int .i64 0) (.int .i64 0) (.slice none 0 0))
        have HMz:=zh (HM3.out.set4 (b:=rb) (fun h=>by have:=HRB.out;omega) (.int .i64 0) (.int .i64 0) (.int .i64 0) (.slice none 0 0))
        exact bodyPost_ret (v:=.tuple #[verV ⟨0,0,0,[]⟩ (.slice none 0 0),.int .i64 60]) (by simp [results,results24,asAddr,hl]) rfl (fin hR ⟨.inl ⟨HN.out,rfl⟩,HMz.out⟩)
   ·have h45b:((l[k].toNat:Int) == 45)=false:=by
     rw [beq_eq_false_iff_ne]
     intro e
     exact h45 (UInt8.toNat_inj.1 (by have:l[k].toNat=45:=(by omega);rw [this];rfl))
    have HN2:=zh (show ∀ i (hi:i < l.length),i < k+1->l[i] ≠ 45 from fun i hi h2=>by
     rcases Nat.lt_or_ge i k with h | h
     ·exact hno i hi h
     ·obtain rfl:i=k:=by omega
      exact h45)
    clear hno
    go_wp2_with fail
    exact ⟨⟨k+1,by omega,rfl,rfl,trivial,HN2.out⟩,by show l.length - ((k:Int)+1).toNat < l.length - (k:Int).toNat;omega⟩
  ·have hnm:45 ∉ l:=fun h=>by
    obtain ⟨i,hi,hh⟩:=List.getElem_of_mem h
    exact hno i hi (by omega) hh
   have HCO:=zh (show headC 45 l=l from headC_none (fun d hd e=>hnm (e ▸ hd)))
   have HPO:=zh (show preOf l=[] from if_neg hnm)
   have HPK:=zh (show preOk l=true by unfold preOk;rw [decide_eq_true hnm];rfl)
   have HMX:=HM2
   have HRX:=HR2
   have HVX:=HV2
   obtain ⟨prv,hprv⟩:∃ v:Value,v=.slice none 0 0:=⟨_,rfl⟩
   obtain ⟨pr,hpr⟩:∃ p:List (List UInt8),p=[]:=⟨_,rfl⟩
   have HPX:=zh (show Sl wr No 9 prv pr.length (strs pr) from .inl ⟨hprv,by rw [hpr];rfl,by rw [hpr];rfl⟩)
   rw [<- hprv] at HVX
   rw [<- hpr] at HPO
   have HCO2:=zh (show headC 45 l=l.take l.length by rw [HCO.out,List.take_length])
   rw [<- HZE.out]
   clear hno hnm HM2 HR2 HV2 hpr hprv HCO
   go_wp2_with fail
   rw [show l=l.take l.length from (List.take_length).symm]
   have hco:(l.take l.length).length<=l.length:=by rw [List.take_length];exact Nat.le_refl _
   generalize l.take l.length=co at *
   have HCO:=HCO2
   clear HCO2
   obtain ⟨va,vc,rfl⟩:=HPX.out.len
   with_reducible refine (HSP.out co hco _).mono ?_
   rintro e w3 ⟨sv,rfl,hown,hm3⟩
   have HM3:=zh (HMX.out.trans hm3)
   have HR3:=zh (hm3.keep HRX.out (fun f=>f))
   have HV3:=zh (hm3.keep HVX.out (fun f=>f))
   have HP3:=zh (HPX.out.kn hm3)
   have HS3:=zh (Sl.of_own (X:=No) hown (fun _ _ f=>f))
   clear hm3 HMX HRX HVX HPX hown
   obtain ⟨sa,sc,rfl⟩:=HS3.out.len
   have hx1:∀ x ∈ splitC 46 co,x.length<=l.length:=fun x hx=>by have:=HSM.out _ x hx;omega
   have hv3:=HVL.out
   have h3v:=fun a b c=>verOf_three (l:=l) (a:=a) (b:=b) (c:=c)
   rw [HCO.out] at hv3 h3v
   generalize splitC 46 co=ps at *
   by_cases h3:ps.length=3
   ·obtain ⟨pA,pB,pC,rfl⟩:∃ pA pB pC,ps=[pA,pB,pC]:=by
     match ps,h3 with
     | [a,b,c],_=>exact ⟨a,b,c,rfl⟩
    have HV:=zh (h3v pA pB pC rfl)
    have hlA:=hx1 pA (by simp)
    have hlB:=hx1 pB (by simp)
    have hlC:=hx1 pC (by simp)
    have e3:[pA,pB,pC].length=3:=rfl
    rw [e3] at HS3
    rw [e3]
    clear hx1 hv3 h3v HVL e3 h3
    obtain ⟨pb,po,pc2,hpv,_⟩:=HS3.out.shape (by decide)
    cases hpv
    have HCA:=zh (show w3.cell? ⟨pb,po,none⟩=some (strV pA) from HS3.out.cellN (i:=0) (by simp))
    have HCB:=zh (show w3.cell? ⟨pb,po+1,none⟩=some (strV pB) from HS3.out.cellN (i:=1) (by simp))
    have HCC:=zh (show w3.cell? ⟨pb,po+2,none⟩=some (strV pC) from HS3.out.cellN (i:=2) (by simp))
    have ca:=HCA.out
    go_wp2_with fail
    with_reducible refine (HNUM.out pA hlA _).mono ?_
    rintro e w3 ⟨⟨nA,rfl,hA⟩,rfl⟩
    have cb:=HCB.out
    have HA:=zh hA
    clear ca hA
    go_wp2_with fail
    with_reducible refine (HNUM.out pB hlB _).mono ?_
    rintro e w3 ⟨⟨nB,rfl,hB⟩,rfl⟩
    have cc:=HCC.out
    have HB:=zh hB
    clear cb hB
    go_wp2_with fail
    with_reducible refine (HNUM.out pC hlC _).mono ?_
    rintro e w3 ⟨⟨nC,rfl,hC⟩,rfl⟩
    have HC:=zh hC
    clear cc hC
    obtain ⟨⟨d0,d1,d2,d3⟩,g0,g1,g2,g3⟩:=cells4 HR3.out
    rcases hbA:numB pA with _ | _
    ·have HN:=zh (show verOf l=none by rw [HV.out,hbA];rfl)
     go_wp2_with fail
     have hl:=load_ver (set4 HR3.out (.int .i64 0) (.int .i64 0) (.int .i64 0) (.slice none 0 0))
     have HMz:=zh (HM3.out.set4 (b:=rb) (fun h=>by have:=HRB.out;omega) (.int .i64 0) (.int .i64 0) (.int .i64 0) (.slice none 0 0))
     exact bodyPost_ret (v:=.tuple #[verV ⟨0,0,0,[]⟩ (.slice none 0 0),.int .i64 60]) (by simp [results,results24,asAddr,hl]) rfl (fin hR ⟨.inl ⟨HN.out,rfl⟩,HMz.out⟩)
    rcases hbB:numB pB with _ | _
    ·have HN:=zh (show verOf l=none by rw [HV.out,hbB];simp)
     go_wp2_with fail
     have hl:=load_ver (set4 HR3.out (.int .i64 0) (.int .i64 0) (.int .i64 0) (.slice none 0 0))
     have HMz:=zh (HM3.out.set4 (b:=rb) (fun h=>by have:=HRB.out;omega) (.int .i64 0) (.int .i64 0) (.int .i64 0) (.slice none 0 0))
     exact bodyPost_ret (v:=.tuple #[verV ⟨0,0,0,[]⟩ (.slice none 0 0),.int .i64 60]) (by simp [results,results24,asAddr,hl]) rfl (fin hR ⟨.inl ⟨HN.out,rfl⟩,HMz.out⟩)
    rcases hbC:numB pC with _ | _
    ·have HN:=zh (show verOf l=none by rw [HV.out,hbC];simp)
     go_wp2_with fail
     have hl:=load_ver (set4 HR3.out (.int .i64 0) (.int .i64 0) (.int .i64 0) (.slice none 0 0))
     have HMz:=zh (HM3.out.set4 (b:=rb) (fun h=>by have:=HRB.out;omega) (.int .i64 0) (.int .i64 0) (.int .i64 0) (.slice none 0 0))
     exact bodyPost_ret (v:=.tuple #[verV ⟨0,0,0,[]⟩ (.slice none 0 0),.int .i64 60]) (by simp [results,results24,asAddr,hl]) rfl (fin hR ⟨.inl ⟨HN.out,rfl⟩,HMz.out⟩)
    obtain rfl:=HA.out hbA
    obtain rfl:=HB.out hbB
    obtain rfl:=HC.out hbC
    have HN:=zh (show verOf l=some ⟨decV pA,decV pB,decV pC,pr⟩ by rw [HV.out,hbA,hbB,hbC,HPK.out,HPO.out];rfl)
    clear HV HA HB HC HCA HCB HCC hbA hbB hbC
    generalize (decV pA:Int)=a at *
    generalize (decV pB:Int)=b at *
    generalize (decV pC:Int)=c at *
    obtain ⟨⟨c0,c1,c2,c3⟩,f0,f1,f2,f3⟩:=cells4 HV3.out
    go_upto_region 25 with fail
    have HV4:=zh (show (((w3.setCell ⟨vb,0,none⟩ (.int .i64 a)).setCell ⟨vb,1,none⟩ (.int .i64 b)).setCell ⟨vb,2,none⟩ (.int .i64 c)).heap[vb]? = some (.cells #[.int .i64 a,.int .i64 b,.int .i64 c,(.slice va pr.length vc)] 40 (0,0)) by rw [heap_setCell (heap_setCell (heap_setCell HV3.out _) _) _];rfl)
    have HM4':=zh (show Mod (fun p=>p=vb) w3 (((w3.setCell ⟨vb,0,none⟩ (.int .i64 a)).setCell ⟨vb,1,none⟩ (.int .i64 b)).setCell ⟨vb,2,none⟩ (.int .i64 c)) from ((Mod.cell1 w3 vb 0 (.int .i64 a)).setCell (p:=⟨vb,1,none⟩) (fun _=>rfl) _).setCell (p:=⟨vb,2,none⟩) (fun _=>rfl) _)
    generalize World.setCell _ ⟨vb,2,none⟩ _=w4 at *
    have HM4:=zh (HM3.out.then HM4'.out (fun i hi e=>by have:=HVB.out;have:=HRB.out;omega))
    have HR4:=zh (HM4'.out.keep HR3.out (fun e=>by have:=HVB.out;omega))
    have HP4:=zh (HP3.out.keep HM4'.out (fun k cur fz hk _ hc=>by subst hk;rw [HV3.out] at hc;cases hc))
    clear c0 c1 c2 c3 f0 f1 f2 f3 d0 d1 d2 d3 g0 g1 g2 g3 HM3 HR3 HV3 HP3 HS3 HM4'
    obtain ⟨⟨c0,c1,c2,c3⟩,-⟩:=cells4 HV4.out
    obtain ⟨⟨d0,d1,d2,d3⟩,g0,g1,g2,g3⟩:=cells4 HR4.out
    go_wp2_with fail
    have hl:=load_ver (set4 HR4.out (.int .i64 a) (.int .i64 b) (.int .i64 c) (.slice va pr.length vc))
    have HMz:=zh (HM4.out.set4 (b:=rb) (fun h=>by have:=HRB.out;omega) (.int .i64 a) (.int .i64 b) (.int .i64 c) (.slice va pr.length vc))
    have HPz:=zh (HP4.out.keep (Mod.set4 (S:=fun p=>p=rb) (b:=rb) (Mod.refl _ w4) (fun _=>rfl) (.int .i64 a) (.int .i64 b) (.int .i64 c) (.slice va pr.length vc)) (fun k cur fz hk _ hc=>by subst hk;rw [HR4.out] at hc;cases hc))
    exact bodyPost_ret (v:=.tuple #[verV ⟨a,b,c,pr⟩ (.slice va pr.length vc),.int .i64 0]) (by simp [results,results24,asAddr,hl]) rfl (fin hR ⟨.inr ⟨_,_,HN.out,rfl,HPz.out⟩,HMz.out⟩)
   ·have h3i:((ps.length:Int) != 3)=true:=by simp;omega
    have HN:=zh (hv3 h3)
    clear hx1 hv3 h3v
    obtain ⟨⟨d0,d1,d2,d3⟩,g0,g1,g2,g3⟩:=cells4 HR3.out
    go_wp2_with fail
    have hl:=load_ver (set4 HR3.out (.int .i64 0) (.int .i64 0) (.int .i64 0) (.slice none 0 0))
    have HMz:=zh (HM3.out.set4 (b:=rb) (fun h=>by have:=HRB.out;omega) (.int .i64 0) (.int .i64 0) (.int .i64 0) (.slice none 0 0))
    exact bodyPost_ret (v:=.tuple #[verV ⟨0,0,0,[]⟩ (.slice none 0 0),.int .i64 60]) (by simp [results,results24,asAddr,hl]) rfl (fin hR ⟨.inl ⟨HN.out,rfl⟩,HMz.out⟩)
end Go.Proofs.YtgiigemfbebcgaaGreatDoor
