/-
  Layers 0 to 14: helps of the laws of indexes. No statement is proved here; no condition.
-/
import Derived.Test.YtgiigemfbebcgaaGreatDoorU03
import Derived.Test.YtgiigemfbebcgaaGreatDoorU08
import Derived.Test.YtgiigemfbebcgaaGreatDoorU18
import Derived.Test.YtgiigemfbebcgaaGreatDoorU17
import Derived.Test.YtgiigemfbebcgaaGreatDoorU15
import Derived.Test.YtgiigemfbebcgaaGreatDoorU07
import Derived.Test.YtgiigemfbebcgaaGreatDoorU14
namespace Go.Proofs.YtgiigemfbebcgaaGreatDoor
open _root_.Go.Proofs.Tryz
open Go.RowKit
set_option maxRecDepth 100000 in
theorem notmark_any (l:List UInt8) (hl:l.length<=1000000) (w:World):Calls prog 142 #[strV l] w fun e w'=>e=.returned (.bool (!markB l))/\Mod No w w':=by
 refine calls_hide fun R hR=>?_
 have HMK:=zh (mark_any l hl)
 generalize (⟨l.toArray⟩:ByteArray)=Z at *
 go_enter func142,ntmps142
 go_wp2_with fail
 with_reducible refine (HMK.out _).mono ?_
 rintro e w ⟨rfl,rfl⟩
 generalize markB l=b at *
 go_wp2_with fail
 exact fin hR ⟨rfl,Mod.refl _ _⟩
abbrev Old (w:World):Nat->Prop:=fun p=>p < w.heap.size
set_option maxRecDepth 100000 in
set_option maxHeartbeats 4000000 in
theorem verparse_any (l:List UInt8) (hl:l.length<=1000000) (w:World) (hg:Gl w) :
  Calls prog 106 #[strV l] w fun e w'=>((verOf l=none/\e=.returned (.tuple #[verV ⟨0,0,0,[]⟩ (.slice none 0 0),.int .i64 60]))\/∃ v pv,verOf l=some v/\e=.returned (.tuple #[verV v pv,.int .i64 0])/\Sl w' (Old w) 9 pv v.pre.length (strs v.pre))/\Mod No w w':=by
 refine calls_hide fun R hR=>?_
 have HCUT:=zh (cut_any 45 l hl)
 have HSP:=zh (fun m (h:m.length<=l.length)=>split_any 46 m (by omega))
 have hh:=headC_le 45 l
 have ht:=tailC_le 45 l
 have HNUM:=zh (fun m (h:m.length<=l.length)=>number_any m (by omega))
 have HCF:=zh (fun (xs:List (List UInt8)) (h:∀ x ∈ xs,x.length<=l.length) (hx:xs.length<=1000000) v w hv=>containsfunc_strs 142 #[] (fun _ _=>rfl) (fun x=>!markB x) xs hx v w hv (fun i hi W _=>notmark_any xs[i] (by have:=h xs[i] (List.getElem_mem hi);omega) W))
 have HSM:=zh (splitC_mem_le 46)
 have HSL:=zh (splitC_length_le 46)
 have HVL:=zh (verOf_len (l:=l))
 have HG:=zh hg
 clear hg
 go_enter func106,ntmps106
 go_wp2_with fail
 obtain ⟨rb,hrb⟩:∃ g,g=w.heap.size:=⟨_,rfl⟩
 rw [<- hrb]
 generalize hw1:World.alloc w _=w1
 have HM1:=zh (show Mod No w w1 by rw [<- hw1];exact (Mod.refl No w).alloc _)
 have HR1:=zh (show w1.heap[rb]? = some (.cells #[.int .i64 0,.int .i64 0,.int .i64 0,.slice none 0 0] 40 (0,0)) by rw [<- hw1,hrb];exact heap_alloc_new w _)
 have HRB:=zh hrb
 clear hw1 hrb
 with_reducible refine (HCUT.out _ (HG.out.stay HM1.out (fun f=>f))).mono ?_
 rintro e w2 ⟨rfl,hm2⟩
 have HM2:=zh (HM1.out.trans hm2)
 have HR2:=zh (hm2.keep HR1.out (fun f=>f))
 clear hm2 HR1 HM1
 go_wp2_with fail
 with_reducible refine (HSP.out _ hh _ (HG.out.stay HM2.out (fun f=>f))).mono ?_
 rintro e w3 ⟨pv,rfl,hown,hm3⟩
 have HM3:=zh (HM2.out.trans hm3)
 have HR3:=zh (hm3.keep HR2.out (fun f=>f))
 have HP3:=zh (Sl.of_own (X:=No) hown (fun _ _ f=>f))
 clear hm3 HR2 HM2 hown
 obtain ⟨pa,pc,rfl⟩:=HP3.out.len
 go_upto_region 4 with fail
 obtain ⟨nb,hnb⟩:∃ g,g=w3.heap.size:=⟨_,rfl⟩
 rw [<- hnb]
 generalize hw4:World.alloc w3 _=w4
 have HM4:=zh (show Mod No w w4 by rw [<- hw4];exact HM3.out.alloc _)
 have HR4:=zh (show w4.heap[rb]? = some (.cells #[.int .i64 0,.int .i64 0,.int .i64 0,.slice none 0 0] 40 (0,0)) by rw [<- hw4];exact heap_alloc_old _ HR3.out)
 have HN4:=zh (show w4.heap[nb]? = some (.cells #[.int .i64 0,.int .i64 0,.int .i64 0] 186 (0,0)) by rw [<- hw4,hnb];exact heap_alloc_new w3 _)
 have HP4:=zh (show Sl w4 No 9 (.slice pa _ pc) _ _ by rw [<- hw4];exact HP3.out.kn ((Mod.refl No w3).alloc _))
 have HNB:=zh (show w.heap.size < nb by have h1:=HM3.out.size;have h2:=lt_of_heap HR3.out;have h3:=HRB.out;omega)
 clear HM3 HR3 HP3 hw4 hnb
 have hx1:∀ x ∈ splitC 46 (headC 45 l),x.length<=l.length:=fun x hx=>by have:=HSM.out _ x hx;omega
 have hv3:=HVL.out
 have h3v:=fun a b c=>verOf_three (l:=l) (a:=a) (b:=b) (c:=c)
 generalize splitC 46 (headC 45 l)=ps at *
 by_cases h3:ps.length=3
 ·obtain ⟨pA,pB,pC,rfl⟩:∃ pA pB pC,ps=[pA,pB,pC]:=by
   match ps,h3 with
   | [a,b,c],_=>exact ⟨a,b,c,rfl⟩
  have HV:=zh (h3v pA pB pC rfl)
  have hlA:=hx1 pA (by simp)
  have hlB:=hx1 pB (by simp)
  have hlC:=hx1 pC (by simp)
  clear hx1 hv3 h3v HVL
  have e3:[pA,pB,pC].length=3:=rfl
  rw [e3] at HP4
  rw [e3]
  clear e3 h3
  obtain ⟨pb,po,pc2,hpv,_⟩:=HP4.out.shape (by decide)
  cases hpv
  have ca:=HP4.out.cellN (i:=0) (by simp)
  have cb:=HP4.out.cellN (i:=1) (by simp)
  have cc:=HP4.out.cellN (i:=2) (by simp)
  have HCA:=zh (show w4.cell? ⟨pb,po,none⟩=some (strV pA) from ca)
  have HCB:=zh (show w4.cell? ⟨pb,po+1,none⟩=some (strV pB) from cb)
  have HCC:=zh (show w4.cell? ⟨pb,po+2,none⟩=some (strV pC) from cc)
  have HPN:=zh (show pb ≠ nb from fun e=>by
   subst e
   obtain ⟨cur,fz,hc⟩:=HP4.out.block
   rw [HN4.out] at hc
   cases hc)
  have HRN:=zh (show rb ≠ nb from fun e=>by have:=HNB.out;have:=HRB.out;omega)
  clear ca cb cc
  go_wp2_with fail
  go_loopw [25] (fun q wr=>∃ (k:Nat) (n0 n1 n2:Int),k<=3/\q=.int .i64 k/\Mod (fun p=>p=nb) w4 wr/\wr.heap[nb]? = some (.cells #[.int .i64 n0,.int .i64 n1,.int .i64 n2] 186 (0,0)) ∧
   (0 < k->numB pA=true/\n0=(decV pA:Int))/\(1 < k->numB pB=true/\n1=(decV pB:Int))/\(2 < k->numB pC=true/\n2=(decV pC:Int))) (fun q _=>3 - (intOf q).toNat)
  case atStart=>exact ⟨0,0,0,0,by omega,rfl,Mod.refl _ _,HN4.out,fun h=>absurd h (by omega),fun h=>absurd h (by omega),fun h=>absurd h (by omega)⟩
  case round =>
   obtain ⟨k,n0,n1,n2,hk,rfl,hmod,hn,hk0,hk1,hk2⟩:=hrel
   have HM:=zh hmod
   have HNr:=zh hn
   have HRr:=zh (hmod.keep HR4.out (fun e=>HRN.out e))
   have HK0:=zh hk0
   have HK1:=zh hk1
   have HK2:=zh hk2
   clear hmod hn hk0 hk1 hk2
   have hk4:k=0\/k=1\/k=2\/k=3:=by omega
   clear hk
   rcases hk4 with rfl | rfl | rfl | rfl
   ·have hcell:wr.cell? ⟨pb,po,none⟩=some (strV pA):=HM.out.cell HCA.out (fun e=>HPN.out e)
    go_wp2_with fail
    with_reducible refine (HNUM.out pA hlA _).mono ?_
    rintro e w5 ⟨⟨n,rfl,hn⟩,hm5⟩
    rcases hb:numB pA with _ | _
    ·have HN:=zh (show verOf l=none by rw [HV.out,hb];simp)
     have hr5:=hm5.keep HRr.out (fun f=>f)
     have HR5:=zh hr5
     have HM5:=zh ((HM4.out.then HM.out (S:=No) (fun i hi e=>by have:=HNB.out;omega)).trans hm5)
     obtain ⟨⟨c0,c1,c2,c3⟩,f0,f1,f2,f3⟩:=cells4 hr5
     clear hm5 hn hr5
     go_wp2_with fail
     have hl:=load_ver (set4 HR5.out (.int .i64 0) (.int .i64 0) (.int .i64 0) (.slice none 0 0))
     have HM6:=zh (HM5.out.set4 (b:=rb) (fun h=>by have:=HRB.out;omega) (.int .i64 0) (.int .i64 0) (.int .i64 0) (.slice none 0 0))
     exact bodyPost_ret (v:=.tuple #[verV ⟨0,0,0,[]⟩ (.slice none 0 0),.int .i64 60]) (by simp [results,results106,asAddr,hl]) rfl (fin hR ⟨.inl ⟨HN.out,rfl⟩,HM6.out⟩)
    ·obtain rfl:=hn hb
     have hn5:=hm5.keep HNr.out (fun f=>f)
     have HN5:=zh hn5
     have HM5:=zh (HM.out.trans hm5.no)
     have d0:=cell_ofA (i:=0) hn5 rfl
     have e0:=frozen_of 0 hn5
     clear hm5 hn hn5
     go_wp2_with fail
     exact ⟨⟨0+1,(decV pA:Int),n1,n2,by omega,rfl,HM5.out.setCell (fun _=>rfl) _,heap_setCell HN5.out _,fun _=>⟨hb,rfl⟩,fun h=>absurd h (by omega),fun h=>absurd h (by omega)⟩,by show 3 - ((0:Int)+1).toNat < 3 - (0:Int).toNat;decide⟩
   ·have hcell:wr.cell? ⟨pb,po+1,none⟩=some (strV pB):=HM.out.cell HCB.out (fun e=>HPN.out e)
    go_wp2_with fail
    with_reducible refine (HNUM.out pB hlB _).mono ?_
    rintro e w5 ⟨⟨n,rfl,hn⟩,hm5⟩
    rcases hb:numB pB with _ | _
    ·have HN:=zh (show verOf l=none by rw [HV.out,hb];simp)
     have hr5:=hm5.keep HRr.out (fun f=>f)
     have HR5:=zh hr5
     have HM5:=zh ((HM4.out.then HM.out (S:=No) (fun i hi e=>by have:=HNB.out;omega)).trans hm5)
     obtain ⟨⟨c0,c1,c2,c3⟩,f0,f1,f2,f3⟩:=cells4 hr5
     clear hm5 hn hr5
     go_wp2_with fail
     have hl:=load_ver (set4 HR5.out (.int .i64 0) (.int .i64 0) (.int .i64 0) (.slice none 0 0))
     have HM6:=zh (HM5.out.set4 (b:=rb) (fun h=>by have:=HRB.out;omega) (.int .i64 0) (.int .i64 0) (.int .i64 0) (.slice none 0 0))
     exact bodyPost_ret (v:=.tuple #[verV ⟨0,0,0,[]⟩ (.slice none 0 0),.int .i64 60]) (by simp [results,results106,asAddr,hl]) rfl (fin hR ⟨.inl ⟨HN.out,rfl⟩,HM6.out⟩)
    ·obtain rfl:=hn hb
     have hn5:=hm5.keep HNr.out (fun f=>f)
     have HN5:=zh hn5
     have HM5:=zh (HM.out.trans hm5.no)
     have d0:=cell_ofA (i:=1) hn5 rfl
     have e0:=frozen_of 1 hn5
     clear hm5 hn hn5
     go_wp2_with fail
     exact ⟨⟨1+1,n0,(decV pB:Int),n2,by omega,rfl,HM5.out.setCell (fun _=>rfl) _,heap_setCell HN5.out _,fun _=>HK0.out (by omega),fun _=>⟨hb,rfl⟩,fun h=>absurd h (by omega)⟩,by show 3 - ((1:Int)+1).toNat < 3 - (1:Int).toNat;decide⟩
   ·have hcell:wr.cell? ⟨pb,po+2,none⟩=some (strV pC):=HM.out.cell HCC.out (fun e=>HPN.out e)
    go_wp2_with fail
    with_reducible refine (HNUM.out pC hlC _).mono ?_
    rintro e w5 ⟨⟨n,rfl,hn⟩,hm5⟩
    rcases hb:numB pC with _ | _
    ·have HN:=zh (show verOf l=none by rw [HV.out,hb];simp)
     have hr5:=hm5.keep HRr.out (fun f=>f)
     have HR5:=zh hr5
     have HM5:=zh ((HM4.out.then HM.out (S:=No) (fun i hi e=>by have:=HNB.out;omega)).trans hm5)
     obtain ⟨⟨c0,c1,c2,c3⟩,f0,f1,f2,f3⟩:=cells4 hr5
     clear hm5 hn hr5
     go_wp2_with fail
     have hl:=load_ver (set4 HR5.out (.int .i64 0) (.int .i64 0) (.int .i64 0) (.slice none 0 0))
     have HM6:=zh (HM5.out.set4 (b:=rb) (fun h=>by have:=HRB.out;omega) (.int .i64 0) (.int .i64 0) (.int .i64 0) (.slice none 0 0))
     exact bodyPost_ret (v:=.tuple #[verV ⟨0,0,0,[]⟩ (.slice none 0 0),.int .i64 60]) (by simp [results,results106,asAddr,hl]) rfl (fin hR ⟨.inl ⟨HN.out,rfl⟩,HM6.out⟩)
    ·obtain rfl:=hn hb
     have hn5:=hm5.keep HNr.out (fun f=>f)
     have HN5:=zh hn5
     have HM5:=zh (HM.out.trans hm5.no)
     have d0:=cell_ofA (i:=2) hn5 rfl
     have e0:=frozen_of 2 hn5
     clear hm5 hn hn5
     go_wp2_with fail
     exact ⟨⟨2+1,n0,n1,(decV pC:Int),by omega,rfl,HM5.out.setCell (fun _=>rfl) _,heap_setCell HN5.out _,fun _=>HK0.out (by omega),fun _=>HK1.out (by omega),fun _=>⟨hb,rfl⟩⟩,by show 3 - ((2:Int)+1).toNat < 3 - (2:Int).toNat;decide⟩
   ·obtain ⟨hA,rfl⟩:=HK0.out (by omega)
    obtain ⟨hB,rfl⟩:=HK1.out (by omega)
    obtain ⟨hC,rfl⟩:=HK2.out (by omega)
    have HV2:=zh (show verOf l=if preOk l=true then some ⟨decV pA,decV pB,decV pC,preOf l⟩ else none by rw [HV.out,hA,hB,hC];rfl)
    have HMr:=zh (HM4.out.then HM.out (S:=No) (fun i hi e=>by have:=HNB.out;omega))
    have nf0:=cell_ofA (i:=0) HNr.out rfl
    have nf1:=cell_ofA (i:=1) HNr.out rfl
    have nf2:=cell_ofA (i:=2) HNr.out rfl
    clear HM HK0 HK1 HK2 HV hA hB hC
    generalize (decV pA:Int)=a at *
    generalize (decV pB:Int)=b at *
    generalize (decV pC:Int)=c at *
    go_upto_region 15 with fail
    obtain ⟨vb,hvb⟩:∃ g,g=wr.heap.size:=⟨_,rfl⟩
    rw [<- hvb]
    generalize hw6:World.alloc wr _=w6
    have HM6:=zh (show Mod No w w6 by rw [<- hw6];exact HMr.out.alloc _)
    have HR6:=zh (show w6.heap[rb]? = some (.cells #[.int .i64 0,.int .i64 0,.int .i64 0,.slice none 0 0] 40 (0,0)) by rw [<- hw6];exact heap_alloc_old _ HRr.out)
    have HV6:=zh (show w6.heap[vb]? = some (.cells #[.int .i64 a,.int .i64 b,.int .i64 c,.slice none 0 0] 40 (0,0)) by rw [<- hw6,hvb];exact heap_alloc_new wr _)
    have HVB:=zh (show rb < vb by rw [hvb];exact lt_of_heap HRr.out)
    clear hw6 hvb nf0 nf1 nf2 HMr HRr HNr HM4 HR4 HN4 HP4 HCA HCB HCC HPN HRN
    by_cases h45:45 ∈ l
    ·rw [decide_eq_true h45]
     have HPO:=zh (show preOf l=splitC 46 (tailC 45 l) from if_pos h45)
     have HPK:=zh (show preOk l=(decide ((preOf l).length<=5) && (preOf l).all markB) by unfold preOk;rw [decide_eq_false (fun h=>h h45),Bool.false_or])
     have hps:∀ x ∈ preOf l,x.length<=l.length:=fun x hx=>by
      rw [HPO.out] at hx
      have:=HSM.out _ x hx
      omega
     have hpl:(preOf l).length<=1000001:=by
      rw [HPO.out]
      have:=HSL.out (tailC 45 l)
      omega
     go_wp2_with fail
     with_reducible refine (HSP.out _ ht _ (HG.out.stay HM6.out (fun f=>f))).mono ?_
     rintro e w7 ⟨pv,rfl,hown,hm7⟩
     rw [<- HPO.out] at hown
     have HP7:=zh (Sl.of_own (X:=Old w) hown (fun k hk h=>by have h2:k < w.heap.size:=h;have:=HM6.out.size;omega))
     obtain ⟨qa,qc,rfl⟩:=HP7.out.len
     have HM7:=zh (HM6.out.trans hm7)
     have HR7:=zh (hm7.keep HR6.out (fun f=>f))
     have HV7:=zh (hm7.keep HV6.out (fun f=>f))
     clear hm7 hown HPO
     generalize preOf l=pr at *
     obtain ⟨⟨c0,c1,c2,c3⟩,f0,f1,f2,f3⟩:=cells4 HV7.out
     go_upto_region 18 with fail
     have HV8:=zh (show (w7.setCell ⟨vb,3,none⟩ (.slice qa pr.length qc)).heap[vb]? = some (.cells #[.int .i64 a,.int .i64 b,.int .i64 c,.slice qa pr.length qc] 40 (0,0)) by rw [heap_setCell HV7.out];rfl)
     have HM8:=zh (show Mod No w (w7.setCell ⟨vb,3,none⟩ (.slice qa pr.length qc)) from HM7.out.setCell (fun h=>by have:=HRB.out;have:=HVB.out;dsimp only at h;omega) _)
     have HR8:=zh (show (w7.setCell ⟨vb,3,none⟩ (.slice qa pr.length qc)).heap[rb]? = some (.cells #[.int .i64 0,.int .i64 0,.int .i64 0,.slice none 0 0] 40 (0,0)) by rw [heap_setCell_ne _ (by have:=HVB.out;dsimp only;omega)];exact HR7.out)
     have HP8:=zh (show Sl (w7.setCell ⟨vb,3,none⟩ (.slice qa pr.length qc)) (Old w) 9 (.slice qa pr.length qc) pr.length (strs pr) from HP7.out.keep (S:=fun p=>p=vb) (Mod.cell1 w7 vb 3 _) (fun k cur fz hk _ hc=>by subst hk;rw [HV7.out] at hc;cases hc))
     generalize w7.setCell ⟨vb,3,none⟩ (.slice qa pr.length qc)=w8 at *
     clear c0 c1 c2 c3 f0 f1 f2 f3 HR7 HV7 HM7 HP7 HV6 HR6 HM6
     obtain ⟨⟨c0,c1,c2,c3⟩,f0,f1,f2,f3⟩:=cells4 HV8.out
     by_cases h5:(5:Int) < (pr.length:Int)
     ·have HN:=zh (show verOf l=none by rw [HV2.out,HPK.out,decide_eq_false (by omega:¬ pr.length<=5)];rfl)
      obtain ⟨⟨d0,d1,d2,d3⟩,g0,g1,g2,g3⟩:=cells4 HR8.out
      go_wp2_with fail
      have hl:=load_ver (set4 HR8.out (.int .i64 0) (.int .i64 0) (.int .i64 0) (.slice none 0 0))
      have HM9:=zh (HM8.out.set4 (b:=rb) (fun h=>by have:=HRB.out;omega) (.int .i64 0) (.int .i64 0) (.int .i64 0) (.slice none 0 0))
      exact bodyPost_ret (v:=.tuple #[verV ⟨0,0,0,[]⟩ (.slice none 0 0),.int .i64 60]) (by simp [results,results106,asAddr,hl]) rfl (fin hR ⟨.inl ⟨HN.out,rfl⟩,HM9.out⟩)
     ·have hcf:=HCF.out pr hps (by omega) _ _ (HP8.out.shrink (fun _ _ f=>f.elim))
      have HCF2:=zh hcf
      clear hcf
      go_wp2_with fail
      with_reducible refine HCF2.out.mono ?_
      rintro e w9 ⟨rfl,hm9⟩
      have HM9:=zh (HM8.out.trans hm9)
      have HR9:=zh (hm9.keep HR8.out (fun f=>f))
      have HV9:=zh (hm9.keep HV8.out (fun f=>f))
      have HP9:=zh (HP8.out.kn hm9)
      have HAN:=zh (show (pr.any fun x=>!markB x) = !(pr.all markB) by rw [List.not_all_eq_any_not])
      clear hm9 c0 c1 c2 c3 f0 f1 f2 f3 HCF2
      obtain ⟨⟨d0,d1,d2,d3⟩,g0,g1,g2,g3⟩:=cells4 HR9.out
      rcases hb:(pr.any fun x=>!markB x) with _ | _
      ·have HN:=zh (show verOf l=some ⟨a,b,c,pr⟩ by
        have hq:pr.all markB=true:=by rw [hb] at HAN;simpa using HAN.out.symm
        rw [HV2.out,HPK.out,decide_eq_true (by omega:pr.length<=5),hq];rfl)
       have hl0:=load_ver HV9.out
       obtain ⟨⟨c0,c1,c2,c3⟩,-⟩:=cells4 HV9.out
       go_wp2_with fail
       have hl:=load_ver (set4 HR9.out (.int .i64 a) (.int .i64 b) (.int .i64 c) (.slice qa pr.length qc))
       have HM10:=zh (HM9.out.set4 (b:=rb) (fun h=>by have:=HRB.out;omega) (.int .i64 a) (.int .i64 b) (.int .i64 c) (.slice qa pr.length qc))
       have HP10:=zh (HP9.out.keep (Mod.set4 (S:=fun p=>p=rb) (b:=rb) (Mod.refl _ w9) (fun _=>rfl) (.int .i64 a) (.int .i64 b) (.int .i64 c) (.slice qa pr.length qc)) (fun k cur fz hk _ hc=>by subst hk;rw [HR9.out] at hc;cases hc))
       exact bodyPost_ret (v:=.tuple #[verV ⟨a,b,c,pr⟩ (.slice qa pr.length qc),.int .i64 0]) (by simp [results,results106,asAddr,hl]) rfl (fin hR ⟨.inr ⟨_,_,HN.out,rfl,HP10.out⟩,HM10.out⟩)
      ·have HN:=zh (show verOf l=none by
        have hq:pr.all markB=false:=by rw [hb] at HAN;simpa using HAN.out.symm
        rw [HV2.out,HPK.out,hq,Bool.and_false];rfl)
       go_wp2_with fail
       have hl:=load_ver (set4 HR9.out (.int .i64 0) (.int .i64 0) (.int .i64 0) (.slice none 0 0))
       have HM10:=zh (HM9.out.set4 (b:=rb) (fun h=>by have:=HRB.out;omega) (.int .i64 0) (.int .i64 0) (.int .i64 0) (.slice none 0 0))
       exact bodyPost_ret (v:=.tuple #[verV ⟨0,0,0,[]⟩ (.slice none 0 0),.int .i64 60]) (by simp [results,results106,asAddr,hl]) rfl (fin hR ⟨.inl ⟨HN.out,rfl⟩,HM10.out⟩)
    ·rw [decide_eq_false h45]
     have HN:=zh (show verOf l=some ⟨a,b,c,[]⟩ by
      rw [HV2.out,if_pos (by unfold preOk;rw [decide_eq_true h45];rfl),show preOf l=[] from if_neg h45])
     obtain ⟨⟨d0,d1,d2,d3⟩,g0,g1,g2,g3⟩:=cells4 HR6.out
     obtain ⟨⟨c0,c1,c2,c3⟩,-⟩:=cells4 HV6.out
     go_wp2_with fail
     have hl:=load_ver (set4 HR6.out (.int .i64 a) (.int .i64 b) (.int .i64 c) (.slice none 0 0))
     have HM9:=zh (HM6.out.set4 (b:=rb) (fun h=>by have:=HRB.out;omega) (.int .i64 a) (.int .i64 b) (.int .i64 c) (.slice none 0 0))
     exact bodyPost_ret (v:=.tuple #[verV ⟨a,b,c,[]⟩ (.slice none 0 0),.int .i64 0]) (by simp [results,results106,asAddr,hl]) rfl (fin hR ⟨.inr ⟨_,_,HN.out,rfl,.inl ⟨rfl,rfl,rfl⟩⟩,HM9.out⟩)
 ·have h3i:((ps.length:Int) != 3)=true:=by simp;omega
  have HN:=zh (hv3 h3)
  clear hx1 hv3 h3v
  obtain ⟨⟨c0,c1,c2,c3⟩,f0,f1,f2,f3⟩:=cells4 HR4.out
  go_wp2_with fail
  have hl:=load_ver (set4 HR4.out (.int .i64 0) (.int .i64 0) (.int .i64 0) (.slice none 0 0))
  have HM5:=zh (HM4.out.set4 (b:=rb) (fun h=>by have:=HRB.out;omega) (.int .i64 0) (.int .i64 0) (.int .i64 0) (.slice none 0 0))
  exact bodyPost_ret (v:=.tuple #[verV ⟨0,0,0,[]⟩ (.slice none 0 0),.int .i64 60]) (by simp [results,results106,asAddr,hl]) rfl (fin hR ⟨.inl ⟨HN.out,rfl⟩,HM5.out⟩)
def hexDs:List UInt8:=[48,49,50,51,52,53,54,55,56,57,97,98,99,100,101,102]
def hexI (c:UInt8):Int:=match hexD c with
 | some x=>(x:Int)
 | none=>-1
theorem hexI_all:∀ n:Fin 256,Lib.indexByte hexDs (UInt8.ofNat n.1)=hexI (UInt8.ofNat n.1):=by decide +kernel
theorem hexI_of (c:UInt8):Lib.indexByte hexDs c=hexI c:=by
 have:=hexI_all ⟨c.toNat,UInt8.toNat_lt c⟩
 rwa [UInt8.ofNat_toNat] at this
theorem indexhex_any (c:UInt8) (w:World):Calls prog 144 #[.string ⟨#[48,49,50,51,52,53,54,55,56,57,97,98,99,100,101,102]⟩,.int .u8 (c.toNat:Int)] w fun e w'=>e=.returned (.int .i64 (hexI c))/\w'=w :=
 (Tryz.strings_IndexByte ⟨#[48,49,50,51,52,53,54,55,56,57,97,98,99,100,101,102]⟩ (c.toNat:Int) w).mono fun e w' ⟨he,hw⟩=>⟨he.trans (by
  rw [<- hexI_of c]
  rw [show ((c.toNat:Int)).toNat.toUInt8=c by rw [Int.toNat_natCast];simp]
  rfl),hw⟩
def AnyKey (cs:Array Value):Prop:=cs.size=32/\∀ j,j < 32->∃ x:Int,cs[j]? = some (.int .u8 x)
theorem AnyKey.set {cs:Array Value} (h:AnyKey cs) (j:Nat) (x:Int):AnyKey (cs.setIfInBounds j (.int .u8 x)):=by
 refine ⟨by rw [Array.size_setIfInBounds];exact h.1,fun i hi=>?_⟩
 rw [Array.getElem?_setIfInBounds]
 by_cases hij:j=i
 ·subst hij
  rw [if_pos rfl,if_pos (by rw [h.1];exact hi)]
  exact ⟨x,rfl⟩
 ·rw [if_neg hij]
  exact h.2 i hi
theorem zero_key:AnyKey (bv (List.replicate 32 0)).toArray:=by
 refine ⟨by simp,fun j hj=>⟨0,?_⟩⟩
 rw [List.getElem?_toArray,bv_get _ _ (by simpa using hj),List.getElem_replicate]
 rfl
theorem sum_none {l:List UInt8} (hs:sumL l=none):l.length ≠ 64\/(l.length=64/\∃ m,∃ hm:m < l.length,hexD l[m]=none/\∀ i (hi:i < l.length),i < m->∃ x,hexD l[i]=some x/\x < 16):=by
 by_cases h64:l.length=64
 ·refine .inr ⟨h64,?_⟩
  cases hf:l.findIdx? (fun c=>(hexD c).isNone) with
  | none =>
   obtain ⟨S,hS⟩:=unhex_some (l:=l) (by omega) (fun i hi e=>by
    have:=List.findIdx?_eq_none_iff.1 hf _ (List.getElem_mem hi)
    rw [e] at this;cases this)
   unfold sumL at hs
   rw [if_pos h64,hS] at hs
   cases hs
  | some m =>
   obtain ⟨hm,h1,h2⟩:=List.findIdx?_eq_some_iff_getElem.1 hf
   refine ⟨m,hm,by simpa using h1,fun i hi hlt=>?_⟩
   cases hx:hexD l[i] with
   | none=>exact absurd (by rw [hx];rfl) (h2 i hlt)
   | some x=>exact ⟨x,rfl,(digit_hexD hx).1⟩
 ·exact .inl h64
set_option maxRecDepth 100000 in
set_option maxHeartbeats 4000000 in
theorem parse_bad (l:List UInt8) (hs:sumL l=none) (w:World) :
  Calls prog 107 #[strV l] w fun e w'=>e=.returned (.tuple #[keyV (List.replicate 32 0),.bool false])/\Mod No w w':=by
 refine calls_hide fun R hR=>?_
 have HX:=zh (run_at l)
 have HZ:=zh (str_len3 l)
 have HC:=zh (sum_none hs)
 unfold strV at *
 generalize (⟨l.toArray⟩:ByteArray)=Z at *
 have hZs:(Z.size:Int)=(l.length:Int):=by rw [HZ.out]
 go_enter func107,ntmps107
 go_upto_region 1 with fail
 obtain ⟨rb,hrb⟩:∃ g,g=w.heap.size:=⟨_,rfl⟩
 rw [<- hrb]
 generalize hw1:World.alloc w _=w1
 have HM1:=zh (show Mod No w w1 by rw [<- hw1];exact (Mod.refl No w).alloc _)
 have HR1:=zh (show w1.heap[rb]? = some (.cells (bv (List.replicate 32 0)).toArray 43 (0,0)) by rw [<- hw1,hrb];exact heap_alloc_new w _)
 have HRB:=zh hrb
 clear hw1 hrb
 go_upto_region 2 with fail
 obtain ⟨kb,hkb⟩:∃ g,g=w1.heap.size:=⟨_,rfl⟩
 rw [<- hkb]
 generalize hw2:World.alloc w1 _=w2
 have HM2:=zh (show Mod No w w2 by rw [<- hw2];exact HM1.out.alloc _)
 have HR2:=zh (show w2.heap[rb]? = some (.cells (bv (List.replicate 32 0)).toArray 43 (0,0)) by rw [<- hw2];exact heap_alloc_old _ HR1.out)
 have HK2:=zh (show w2.heap[kb]? = some (.cells (bv (List.replicate 32 0)).toArray 43 (0,0)) by rw [<- hw2,hkb];exact heap_alloc_new w1 _)
 have HKB:=zh (show rb < kb by rw [hkb];exact lt_of_heap HR1.out)
 clear hw2 hkb HM1 HR1
 obtain ⟨zs,hzs⟩:∃ zs,zs=List.replicate 32 (0:UInt8):=⟨_,rfl⟩
 have hzl:zs.length=32:=by rw [hzs];rfl
 have HZS:=zh hzs
 have HZL:=zh hzl
 rw [<- hzs] at hR
 clear hzs hzl
 rcases HC.out with h64 | ⟨h64,m,hm,hbad,hgood⟩
 ·have hn:((l.length:Int) != 64)=true:=by simp;omega
  go_wp2_with (refine wpList_store_row rfl 43 _ _ rfl rb (bv zs).toArray rfl (by rw [HZS.out];rfl) 43 _ HR2.out (key_size HZL.out) (by simp [HZL.out]) (by simp [bv,Value.oneCell']) ?_)
  have hr4:=setRow_heap _ _ _ (bv zs).toArray _ _ HR2.out
  have hmm4:=zh (HM2.out.setRow (fun h=>by have:=HRB.out;omega) (bv zs).toArray:Mod No w (w2.setRow rb (bv zs).toArray))
  have hl:=run_loadVar_row (P:=prog) (w2.setRow rb (bv zs).toArray) rb 43 43 (bv zs).toArray (0,0) _ hr4 underlying43 rfl (key_size HZL.out)
  exact bodyPost_ret (v:=.tuple #[keyV zs,.bool false]) (by simp [results,results107,asAddr,hl]) rfl (fin hR ⟨rfl,hmm4.out⟩)
 ·have hl64:(l.length:Int)=64:=by omega
  have hz64:(Z.size:Int)=64:=by omega
  have hm64:m < 64:=by omega
  have HBAD:=zh (show hexI l[m] = -1 by unfold hexI;rw [hbad])
  have HGOOD:=zh hgood
  have HKK:=zh (show AnyKey (bv (List.replicate 32 0)).toArray from zero_key)
  clear hbad hgood hZs HC
  go_wp2_with fail
  go_loopw [13] (fun q wr=>∃ (i:Nat) (cs:Array Value),i<=m/\q=.int .i64 (i:Int)/\Mod No w wr/\wr.heap[rb]? = some (.cells (bv (List.replicate 32 0)).toArray 43 (0,0))/\wr.heap[kb]? = some (.cells cs 43 (0,0))/\AnyKey cs) (fun q _=>64 - (intOf q).toNat)
  case atStart=>exact ⟨0,_,by omega,rfl,HM2.out,HR2.out,HK2.out,HKK.out⟩
  case round =>
   obtain ⟨i,cs,him,rfl,hmod,hr,hk,hcs⟩:=hrel
   have HM3:=zh hmod
   have HR3:=zh hr
   have HK3:=zh hk
   have HCS:=zh hcs
   have hi0:(0:Int)<=(i:Int):=Int.natCast_nonneg _
   have hi64:(i:Int) < 64:=by omega
   have hidx:=HX.out i (by omega)
   have HIH:=zh (indexhex_any l[i])
   clear hmod hr hk hcs
   by_cases hie:i=m
   ·subst hie
    rw [HBAD.out] at HIH
    generalize (l[i].toNat:Int)=ch at *
    clear HK3 HCS HK2 HR2
    go_wp2_with (first | (refine wpList_store_row rfl 43 _ _ rfl rb (bv zs).toArray rfl (by rw [HZS.out];rfl) 43 _ HR3.out (key_size HZL.out) (by simp [HZL.out]) (by simp [bv,Value.oneCell']) ?_) | (go_at_call 144;refine (HIH.out _).mono ?_;rintro e w4 ⟨rfl,rfl⟩))
    have hr4:=setRow_heap _ _ _ (bv zs).toArray _ _ HR3.out
    have hmm4:=zh (HM3.out.setRow (fun h=>by have:=HRB.out;omega) (bv zs).toArray:Mod No w (w4.setRow rb (bv zs).toArray))
    have hl:=run_loadVar_row (P:=prog) (w4.setRow rb (bv zs).toArray) rb 43 43 (bv zs).toArray (0,0) _ hr4 underlying43 rfl (key_size HZL.out)
    exact bodyPost_ret (v:=.tuple #[keyV zs,.bool false]) (by simp [results,results107,asAddr,hl]) rfl (fin hR ⟨rfl,hmm4.out⟩)
   ·obtain ⟨x,hx,hx16⟩:=HGOOD.out i (by omega) (by omega)
    have HXI:=zh (show hexI l[i]=(x:Int) by unfold hexI;rw [hx])
    rw [HXI.out] at HIH
    obtain ⟨y,hy⟩:=HCS.out.2 (i / 2) (by omega)
    generalize (l[i].toNat:Int)=ch at *
    obtain ⟨j,hj⟩:∃ j,j=i / 2:=⟨_,rfl⟩
    rw [<- hj] at hy
    have c0:wr.cell? ⟨kb,j,none⟩=some (.int .u8 y):=cell_ofA HK3.out hy
    have f0:=frozen_of j HK3.out
    have q1:(i:Int) / 2=(j:Int):=by omega
    have q1':Int.tdiv (i:Int) 2=(j:Int):=by rw [Int.tdiv_eq_ediv_of_nonneg hi0];exact q1
    have j0:(0:Int)<=(j:Int):=Int.natCast_nonneg _
    have j1:(j:Int) < 32:=by omega
    have x0:(0:Int)<=(x:Int):=Int.natCast_nonneg _
    have x1:(x:Int) < 16:=by omega
    clear hj hx hy
    go_wp2_with fail
    with_reducible refine (HIH.out _).mono ?_
    rintro e w4 ⟨rfl,hw4⟩
    subst hw4
    go_wp2_with fail
    have hkb:=HKB.out
    exact ⟨⟨i+1,_,by omega,rfl,HM3.out.setCell (fun h=>by have:=HRB.out;dsimp only at h;omega) _,by rw [heap_setCell_ne _ (by dsimp only;omega)];exact HR3.out,by rw [heap_setCell HK3.out],HCS.out.set _ _⟩,by show 64 - ((i:Int)+1).toNat < 64 - (i:Int).toNat;omega⟩
end Go.Proofs.YtgiigemfbebcgaaGreatDoor
