/-
  Layers 0 to 14: helps of the laws of indexes. No statement is proved here; no condition.
-/
import Derived.Test.YtmppeipgjcjdkaaGreatDoorX03
import Derived.Test.YtmppeipgjcjdkaaGreatDoorX02
import Derived.Test.YtmppeipgjcjdkaaGreatDoorX01
import Derived.Test.YtmppeipgjcjdkaaGreatDoorX04
import Derived.Test.YtmppeipgjcjdkaaGreatDoorX05
import Derived.Test.YtmppeipgjcjdkaaGreatDoorX00
namespace Go.Proofs.YtmppeipgjcjdkaaGreatDoor
open _root_.Go.Proofs.Tryz
open Go.RowKit
set_option maxRecDepth 100000 in
set_option maxHeartbeats 4000000 in
theorem number_any (l:List UInt8) (hl:l.length<=1000000) (w:World):Calls prog 216 #[strV l] w fun e w'=>(∃ n:Int,e=.returned (.tuple #[.int .i64 n,.bool (numB l)])/\(numB l=true->n=(decV l:Int)))/\Mod No w w':=by
 refine calls_hide fun R hR=>?_
 have HZ:=zh (str_len3 l)
 have hT:=str_list l
 have HDG:=zh (digits_any l hl)
 have HPL:=zh (plain_any l hl)
 have HAT:=zh (show digitsB l=true->l.length<=9->∀ W,Calls prog 263 #[strV l] W fun e w'=>e=.returned (.tuple #[.int .i64 (decV l:Int),.nilIface])/\Mod No W w' from fun h h9 W =>
  (Tryz.strconv_Atoi ⟨l.toArray⟩ (decV l) (by rw [HZ.out];omega) (atoi_dig h) W).mono fun e w' ⟨he,t,ht⟩=>⟨he,by
   rw [ht]
   exact ⟨rfl,rfl,rfl,by rw [Lib.bytesWorld_size];omega,fun k hk _=>Lib.bytesWorld_at_old W _ _ k hk⟩⟩)
 unfold strV at *
 generalize (⟨l.toArray⟩:ByteArray)=Z at *
 have hZs:(Z.size:Int)=(l.length:Int):=by rw [HZ.out]
 have HNB:=zh (show numB l=(digitsB l && decide (l.length<=9) && plainB l) from rfl)
 have HDN:=zh (nonempty_of_digits (l:=l))
 go_enter func216,ntmps216
 go_wp2_with fail
 with_reducible refine (HDG.out _).mono ?_
 rintro e w ⟨rfl,rfl⟩
 rcases hd:digitsB l with _ | _
 ·go_wp2_with fail
  have hb:numB l=false:=by rw [HNB.out,hd];rfl
  refine fin hR ⟨⟨0,by rw [hb];rfl,fun h=>by rw [hb] at h;cases h⟩,Mod.refl _ _⟩
 by_cases h9:(9:Int) < (l.length:Int)
 ·go_wp2_with fail
  have hb:numB l=false:=by rw [HNB.out,decide_eq_false (by omega:¬ l.length<=9),Bool.and_false];rfl
  refine fin hR ⟨⟨0,by rw [hb];rfl,fun h=>by rw [hb] at h;cases h⟩,Mod.refl _ _⟩
 go_wp2_with fail
 with_reducible refine (HPL.out (HDN.out hd) _).mono ?_
 rintro e w ⟨rfl,rfl⟩
 rcases hp:plainB l with _ | _
 ·go_wp2_with fail
  have hb:numB l=false:=by rw [HNB.out,hp,Bool.and_false]
  refine fin hR ⟨⟨0,by rw [hb];rfl,fun h=>by rw [hb] at h;cases h⟩,Mod.refl _ _⟩
 ·go_wp2_with fail
  with_reducible refine (HAT.out hd (by omega) _).mono ?_
  rintro e w1 ⟨rfl,hm⟩
  have HM:=zh hm
  clear hm
  go_wp2_with fail
  have hb:numB l=true:=by rw [HNB.out,hd,hp,decide_eq_true (by omega:l.length<=9)];rfl
  refine fin hR ⟨⟨(decV l:Int),by rw [hb];rfl,fun _=>rfl⟩,HM.out⟩
set_option maxRecDepth 100000 in
theorem notmark_any (l:List UInt8) (hl:l.length<=1000000) (w:World):Calls prog 218 #[strV l] w fun e w'=>e=.returned (.bool (!markB l))/\Mod No w w':=by
 refine calls_hide fun R hR=>?_
 have HMK:=zh (mark_any l hl)
 generalize (⟨l.toArray⟩:ByteArray)=Z at *
 go_enter func218,ntmps218
 go_wp2_with fail
 with_reducible refine (HMK.out _).mono ?_
 rintro e w ⟨rfl,rfl⟩
 generalize markB l=b at *
 go_wp2_with fail
 exact fin hR ⟨rfl,Mod.refl _ _⟩
abbrev Old (w:World):Nat->Prop:=fun p=>p < w.heap.size
set_option maxRecDepth 100000 in
set_option maxHeartbeats 4000000 in
theorem verparse_any (l:List UInt8) (hl:l.length<=1000000) (w:World) (hg:Gl w) :
  Calls prog 158 #[strV l] w fun e w'=>((verOf l=none/\e=.returned (.tuple #[verV ⟨0,0,0,[]⟩ (.slice none 0 0),.int .i64 60]))\/∃ v pv,verOf l=some v/\e=.returned (.tuple #[verV v pv,.int .i64 0])/\Sl w' (Old w) 9 pv v.pre.length (strs v.pre))/\Mod No w w':=by
 refine calls_hide fun R hR=>?_
 have HCUT:=zh (cut_any 45 l hl)
 have HSP:=zh (fun m (h:m.length<=l.length)=>split_any 46 m (by omega))
 have hh:=headC_le 45 l
 have ht:=tailC_le 45 l
 have HNUM:=zh (fun m (h:m.length<=l.length)=>number_any m (by omega))
 have HCF:=zh (fun (xs:List (List UInt8)) (h:∀ x ∈ xs,x.length<=l.length) (hx:xs.length<=1000000) v w hv=>containsfunc_strs 218 #[] (fun _ _=>rfl) (fun x=>!markB x) xs hx v w hv (fun i hi W _=>notmark_any xs[i] (by have:=h xs[i] (List.getElem_mem hi);omega) W))
 have HSM:=zh (splitC_mem_le 46)
 have HSL:=zh (splitC_length_le 46)
 have HVL:=zh (verOf_len (l:=l))
 have HG:=zh hg
 clear hg
 go_enter func158,ntmps158
 go_wp2_with fail
 obtain ⟨rb,hrb⟩:∃ g,g=w.heap.size:=⟨_,rfl⟩
 rw [<- hrb]
 generalize hw1:World.alloc w _=w1
 have HM1:=zh (show Mod No w w1 by rw [<- hw1];exact (Mod.refl No w).alloc _)
 have HR1:=zh (show w1.heap[rb]? = some (.cells #[.int .i64 0,.int .i64 0,.int .i64 0,.slice none 0 0] 45 (0,0)) by rw [<- hw1,hrb];exact heap_alloc_new w _)
 have HRB:=zh hrb
 clear hw1 hrb
 with_reducible refine (HCUT.out _ (HG.out.stay HM1.out (fun f=>f))).mono ?_
 rintro e w2 ⟨rfl,hm2⟩
 have HM2:=zh (HM1.out.trans hm2)
 have HR2:=zh (hm2.keep HR1.out (fun f=>f))
 clear hm2 HR1 HM1
 go_wp2_with fail
 with_reducible refine (HSP.out _ hh _ (HG.out.stay HM2.out (fun f=>f))).mono ?_
 rintro e w3 ⟨pv,rfl,hown,hm3⟩
 have HM3:=zh (HM2.out.trans hm3)
 have HR3:=zh (hm3.keep HR2.out (fun f=>f))
 have HP3:=zh (Sl.of_own (X:=No) hown (fun _ _ f=>f))
 clear hm3 HR2 HM2 hown
 obtain ⟨pa,pc,rfl⟩:=HP3.out.len
 go_upto_region 4 with fail
 obtain ⟨nb,hnb⟩:∃ g,g=w3.heap.size:=⟨_,rfl⟩
 rw [<- hnb]
 generalize hw4:World.alloc w3 _=w4
 have HM4:=zh (show Mod No w w4 by rw [<- hw4];exact HM3.out.alloc _)
 have HR4:=zh (show w4.heap[rb]? = some (.cells #[.int .i64 0,.int .i64 0,.int .i64 0,.slice none 0 0] 45 (0,0)) by rw [<- hw4];exact heap_alloc_old _ HR3.out)
 have HN4:=zh (show w4.heap[nb]? = some (.cells #[.int .i64 0,.int .i64 0,.int .i64 0] 296 (0,0)) by rw [<- hw4,hnb];exact heap_alloc_new w3 _)
 have HP4:=zh (show Sl w4 No 9 (.slice pa _ pc) _ _ by rw [<- hw4];exact HP3.out.kn ((Mod.refl No w3).alloc _))
 have HNB:=zh (show w.heap.size < nb by have h1:=HM3.out.size;have h2:=lt_of_heap HR3.out;have h3:=HRB.out;omega)
 clear HM3 HR3 HP3 hw4 hnb
 have hx1:∀ x ∈ splitC 46 (headC 45 l),x.length<=l.length:=fun x hx=>by have:=HSM.out _ x hx;omega
 have hv3:=HVL.out
 have h3v:=fun a b c=>verOf_three (l:=l) (a:=a) (b:=b) (c:=c)
 generalize splitC 46 (headC 45 l)=ps at *
 by_cases h3:ps.length=3
 ·obtain ⟨pA,pB,pC,rfl⟩:∃ pA pB pC,ps=[pA,pB,pC]:=by
   match ps,h3 with
   | [a,b,c],_=>exact ⟨a,b,c,rfl⟩
  have HV:=zh (h3v pA pB pC rfl)
  have hlA:=hx1 pA (by simp)
  have hlB:=hx1 pB (by simp)
  have hlC:=hx1 pC (by simp)
  clear hx1 hv3 h3v HVL
  have e3:[pA,pB,pC].length=3:=rfl
  rw [e3] at HP4
  rw [e3]
  clear e3 h3
  obtain ⟨pb,po,pc2,hpv,_⟩:=HP4.out.shape (by decide)
  cases hpv
  have ca:=HP4.out.cellN (i:=0) (by simp)
  have cb:=HP4.out.cellN (i:=1) (by simp)
  have cc:=HP4.out.cellN (i:=2) (by simp)
  have HCA:=zh (show w4.cell? ⟨pb,po,none⟩=some (strV pA) from ca)
  have HCB:=zh (show w4.cell? ⟨pb,po+1,none⟩=some (strV pB) from cb)
  have HCC:=zh (show w4.cell? ⟨pb,po+2,none⟩=some (strV pC) from cc)
  have HPN:=zh (show pb ≠ nb from fun e=>by
   subst e
   obtain ⟨cur,fz,hc⟩:=HP4.out.block
   rw [HN4.out] at hc
   cases hc)
  have HRN:=zh (show rb ≠ nb from fun e=>by have:=HNB.out;have:=HRB.out;omega)
  clear ca cb cc
  go_wp2_with fail
  go_loopw [25] (fun q wr=>∃ (k:Nat) (n0 n1 n2:Int),k<=3/\q=.int .i64 k/\Mod (fun p=>p=nb) w4 wr/\wr.heap[nb]? = some (.cells #[.int .i64 n0,.int .i64 n1,.int .i64 n2] 296 (0,0)) ∧
   (0 < k->numB pA=true/\n0=(decV pA:Int))/\(1 < k->numB pB=true/\n1=(decV pB:Int))/\(2 < k->numB pC=true/\n2=(decV pC:Int))) (fun q _=>3 - (intOf q).toNat)
  case atStart=>exact ⟨0,0,0,0,by omega,rfl,Mod.refl _ _,HN4.out,fun h=>absurd h (by omega),fun h=>absurd h (by omega),fun h=>absurd h (by omega)⟩
  case round =>
   obtain ⟨k,n0,n1,n2,hk,rfl,hmod,hn,hk0,hk1,hk2⟩:=hrel
   have HM:=zh hmod
   have HNr:=zh hn
   have HRr:=zh (hmod.keep HR4.out (fun e=>HRN.out e))
   have HK0:=zh hk0
   have HK1:=zh hk1
   have HK2:=zh hk2
   clear hmod hn hk0 hk1 hk2
   have hk4:k=0\/k=1\/k=2\/k=3:=by omega
   clear hk
   rcases hk4 with rfl | rfl | rfl | rfl
   ·have hcell:wr.cell? ⟨pb,po,none⟩=some (strV pA):=HM.out.cell HCA.out (fun e=>HPN.out e)
    go_wp2_with fail
    with_reducible refine (HNUM.out pA hlA _).mono ?_
    rintro e w5 ⟨⟨n,rfl,hn⟩,hm5⟩
    rcases hb:numB pA with _ | _
    ·have HN:=zh (show verOf l=none by rw [HV.out,hb];simp)
     have hr5:=hm5.keep HRr.out (fun f=>f)
     have HR5:=zh hr5
     have HM5:=zh ((HM4.out.then HM.out (S:=No) (fun i hi e=>by have:=HNB.out;omega)).trans hm5)
     obtain ⟨⟨c0,c1,c2,c3⟩,f0,f1,f2,f3⟩:=cells4 hr5
     clear hm5 hn hr5
     go_wp2_with fail
     have hl:=load_ver (set4 HR5.out (.int .i64 0) (.int .i64 0) (.int .i64 0) (.slice none 0 0))
     have HM6:=zh (HM5.out.set4 (b:=rb) (fun h=>by have:=HRB.out;omega) (.int .i64 0) (.int .i64 0) (.int .i64 0) (.slice none 0 0))
     exact bodyPost_ret (v:=.tuple #[verV ⟨0,0,0,[]⟩ (.slice none 0 0),.int .i64 60]) (by simp [results,results158,asAddr,hl]) rfl (fin hR ⟨.inl ⟨HN.out,rfl⟩,HM6.out⟩)
    ·obtain rfl:=hn hb
     have hn5:=hm5.keep HNr.out (fun f=>f)
     have HN5:=zh hn5
     have HM5:=zh (HM.out.trans hm5.no)
     have d0:=cell_ofA (i:=0) hn5 rfl
     have e0:=frozen_of 0 hn5
     clear hm5 hn hn5
     go_wp2_with fail
     exact ⟨⟨0+1,(decV pA:Int),n1,n2,by omega,rfl,HM5.out.setCell (fun _=>rfl) _,heap_setCell HN5.out _,fun _=>⟨hb,rfl⟩,fun h=>absurd h (by omega),fun h=>absurd h (by omega)⟩,by show 3 - ((0:Int)+1).toNat < 3 - (0:Int).toNat;decide⟩
   ·have hcell:wr.cell? ⟨pb,po+1,none⟩=some (strV pB):=HM.out.cell HCB.out (fun e=>HPN.out e)
    go_wp2_with fail
    with_reducible refine (HNUM.out pB hlB _).mono ?_
    rintro e w5 ⟨⟨n,rfl,hn⟩,hm5⟩
    rcases hb:numB pB with _ | _
    ·have HN:=zh (show verOf l=none by rw [HV.out,hb];simp)
     have hr5:=hm5.keep HRr.out (fun f=>f)
     have HR5:=zh hr5
     have HM5:=zh ((HM4.out.then HM.out (S:=No) (fun i hi e=>by have:=HNB.out;omega)).trans hm5)
     obtain ⟨⟨c0,c1,c2,c3⟩,f0,f1,f2,f3⟩:=cells4 hr5
     clear hm5 hn hr5
     go_wp2_with fail
     have hl:=load_ver (set4 HR5.out (.int .i64 0) (.int .i64 0) (.int .i64 0) (.slice none 0 0))
     have HM6:=zh (HM5.out.set4 (b:=rb) (fun h=>by have:=HRB.out;omega) (.int .i64 0) (.int .i64 0) (.int .i64 0) (.slice none 0 0))
     exact bodyPost_ret (v:=.tuple #[verV ⟨0,0,0,[]⟩ (.slice none 0 0),.int .i64 60]) (by simp [results,results158,asAddr,hl]) rfl (fin hR ⟨.inl ⟨HN.out,rfl⟩,HM6.out⟩)
    ·obtain rfl:=hn hb
     have hn5:=hm5.keep HNr.out (fun f=>f)
     have HN5:=zh hn5
     have HM5:=zh (HM.out.trans hm5.no)
     have d0:=cell_ofA (i:=1) hn5 rfl
     have e0:=frozen_of 1 hn5
     clear hm5 hn hn5
     go_wp2_with fail
     exact ⟨⟨1+1,n0,(decV pB:Int),n2,by omega,rfl,HM5.out.setCell (fun _=>rfl) _,heap_setCell HN5.out _,fun _=>HK0.out (by omega),fun _=>⟨hb,rfl⟩,fun h=>absurd h (by omega)⟩,by show 3 - ((1:Int)+1).toNat < 3 - (1:Int).toNat;decide⟩
   ·have hcell:wr.cell? ⟨pb,po+2,none⟩=some (strV pC):=HM.out.cell HCC.out (fun e=>HPN.out e)
    go_wp2_with fail
    with_reducible refine (HNUM.out pC hlC _).mono ?_
    rintro e w5 ⟨⟨n,rfl,hn⟩,hm5⟩
    rcases hb:numB pC with _ | _
    ·have HN:=zh (show verOf l=none by rw [HV.out,hb];simp)
     have hr5:=hm5.keep HRr.out (fun f=>f)
     have HR5:=zh hr5
     have HM5:=zh ((HM4.out.then HM.out (S:=No) (fun i hi e=>by have:=HNB.out;omega)).trans hm5)
     obtain ⟨⟨c0,c1,c2,c3⟩,f0,f1,f2,f3⟩:=cells4 hr5
     clear hm5 hn hr5
     go_wp2_with fail
     have hl:=load_ver (set4 HR5.out (.int .i64 0) (.int .i64 0) (.int .i64 0) (.slice none 0 0))
     have HM6:=zh (HM5.out.set4 (b:=rb) (fun h=>by have:=HRB.out;omega) (.int .i64 0) (.int .i64 0) (.int .i64 0) (.slice none 0 0))
     exact bodyPost_ret (v:=.tuple #[verV ⟨0,0,0,[]⟩ (.slice none 0 0),.int .i64 60]) (by simp [results,results158,asAddr,hl]) rfl (fin hR ⟨.inl ⟨HN.out,rfl⟩,HM6.out⟩)
    ·obtain rfl:=hn hb
     have hn5:=hm5.keep HNr.out (fun f=>f)
     have HN5:=zh hn5
     have HM5:=zh (HM.out.trans hm5.no)
     have d0:=cell_ofA (i:=2) hn5 rfl
     have e0:=frozen_of 2 hn5
     clear hm5 hn hn5
     go_wp2_with fail
     exact ⟨⟨2+1,n0,n1,(decV pC:Int),by omega,rfl,HM5.out.setCell (fun _=>rfl) _,heap_setCell HN5.out _,fun _=>HK0.out (by omega),fun _=>HK1.out (by omega),fun _=>⟨hb,rfl⟩⟩,by show 3 - ((2:Int)+1).toNat < 3 - (2:Int).toNat;decide⟩
   ·obtain ⟨hA,rfl⟩:=HK0.out (by omega)
    obtain ⟨hB,rfl⟩:=HK1.out (by omega)
    obtain ⟨hC,rfl⟩:=HK2.out (by omega)
    have HV2:=zh (show verOf l=if preOk l=true then some ⟨decV pA,decV pB,decV pC,preOf l⟩ else none by rw [HV.out,hA,hB,hC];rfl)
    have HMr:=zh (HM4.out.then HM.out (S:=No) (fun i hi e=>by have:=HNB.out;omega))
    have nf0:=cell_ofA (i:=0) HNr.out rfl
    have nf1:=cell_ofA (i:=1) HNr.out rfl
    have nf2:=cell_ofA (i:=2) HNr.out rfl
    clear HM HK0 HK1 HK2 HV hA hB hC
    generalize (decV pA:Int)=a at *
    generalize (decV pB:Int)=b at *
    generalize (decV pC:Int)=c at *
    go_upto_region 15 with fail
    obtain ⟨vb,hvb⟩:∃ g,g=wr.heap.size:=⟨_,rfl⟩
    rw [<- hvb]
    generalize hw6:World.alloc wr _=w6
    have HM6:=zh (show Mod No w w6 by rw [<- hw6];exact HMr.out.alloc _)
    have HR6:=zh (show w6.heap[rb]? = some (.cells #[.int .i64 0,.int .i64 0,.int .i64 0,.slice none 0 0] 45 (0,0)) by rw [<- hw6];exact heap_alloc_old _ HRr.out)
    have HV6:=zh (show w6.heap[vb]? = some (.cells #[.int .i64 a,.int .i64 b,.int .i64 c,.slice none 0 0] 45 (0,0)) by rw [<- hw6,hvb];exact heap_alloc_new wr _)
    have HVB:=zh (show rb < vb by rw [hvb];exact lt_of_heap HRr.out)
    clear hw6 hvb nf0 nf1 nf2 HMr HRr HNr HM4 HR4 HN4 HP4 HCA HCB HCC HPN HRN
    by_cases h45:45 ∈ l
    ·rw [decide_eq_true h45]
     have HPO:=zh (show preOf l=splitC 46 (tailC 45 l) from if_pos h45)
     have HPK:=zh (show preOk l=(decide ((preOf l).length<=5) && (preOf l).all markB) by unfold preOk;rw [decide_eq_false (fun h=>h h45),Bool.false_or])
     have hps:∀ x ∈ preOf l,x.length<=l.length:=fun x hx=>by
      rw [HPO.out] at hx
      have:=HSM.out _ x hx
      omega
     have hpl:(preOf l).length<=1000001:=by
      rw [HPO.out]
      have:=HSL.out (tailC 45 l)
      omega
     go_wp2_with fail
     with_reducible refine (HSP.out _ ht _ (HG.out.stay HM6.out (fun f=>f))).mono ?_
     rintro e w7 ⟨pv,rfl,hown,hm7⟩
     rw [<- HPO.out] at hown
     have HP7:=zh (Sl.of_own (X:=Old w) hown (fun k hk h=>by have h2:k < w.heap.size:=h;have:=HM6.out.size;omega))
     obtain ⟨qa,qc,rfl⟩:=HP7.out.len
     have HM7:=zh (HM6.out.trans hm7)
     have HR7:=zh (hm7.keep HR6.out (fun f=>f))
     have HV7:=zh (hm7.keep HV6.out (fun f=>f))
     clear hm7 hown HPO
     generalize preOf l=pr at *
     obtain ⟨⟨c0,c1,c2,c3⟩,f0,f1,f2,f3⟩:=cells4 HV7.out
     go_upto_region 18 with fail
     have HV8:=zh (show (w7.setCell ⟨vb,3,none⟩ (.slice qa pr.length qc)).heap[vb]? = some (.cells #[.int .i64 a,.int .i64 b,.int .i64 c,.slice qa pr.length qc] 45 (0,0)) by rw [heap_setCell HV7.out];rfl)
     have HM8:=zh (show Mod No w (w7.setCell ⟨vb,3,none⟩ (.slice qa pr.length qc)) from HM7.out.setCell (fun h=>by have:=HRB.out;have:=HVB.out;dsimp only at h;omega) _)
     have HR8:=zh (show (w7.setCell ⟨vb,3,none⟩ (.slice qa pr.length qc)).heap[rb]? = some (.cells #[.int .i64 0,.int .i64 0,.int .i64 0,.slice none 0 0] 45 (0,0)) by rw [heap_setCell_ne _ (by have:=HVB.out;dsimp only;omega)];exact HR7.out)
     have HP8:=zh (show Sl (w7.setCell ⟨vb,3,none⟩ (.slice qa pr.length qc)) (Old w) 9 (.slice qa pr.length qc) pr.length (strs pr) from HP7.out.keep (S:=fun p=>p=vb) (Mod.cell1 w7 vb 3 _) (fun k cur fz hk _ hc=>by subst hk;rw [HV7.out] at hc;cases hc))
     generalize w7.setCell ⟨vb,3,none⟩ (.slice qa pr.length qc)=w8 at *
     clear c0 c1 c2 c3 f0 f1 f2 f3 HR7 HV7 HM7 HP7 HV6 HR6 HM6
     obtain ⟨⟨c0,c1,c2,c3⟩,f0,f1,f2,f3⟩:=cells4 HV8.out
     by_cases h5:(5:Int) < (pr.length:Int)
     ·have HN:=zh (show verOf l=none by rw [HV2.out,HPK.out,decide_eq_false (by omega:¬ pr.length<=5)];rfl)
      obtain ⟨⟨d0,d1,d2,d3⟩,g0,g1,g2,g3⟩:=cells4 HR8.out
      go_wp2_with fail
      have hl:=load_ver (set4 HR8.out (.int .i64 0) (.int .i64 0) (.int .i64 0) (.slice none 0 0))
      have HM9:=zh (HM8.out.set4 (b:=rb) (fun h=>by have:=HRB.out;omega) (.int .i64 0) (.int .i64 0) (.int .i64 0) (.slice none 0 0))
      exact bodyPost_ret (v:=.tuple #[verV ⟨0,0,0,[]⟩ (.slice none 0 0),.int .i64 60]) (by simp [results,results158,asAddr,hl]) rfl (fin hR ⟨.inl ⟨HN.out,rfl⟩,HM9.out⟩)
     ·have hcf:=HCF.out pr hps (by omega) _ _ (HP8.out.shrink (fun _ _ f=>f.elim))
      have HCF2:=zh hcf
      clear hcf
      go_wp2_with fail
      with_reducible refine HCF2.out.mono ?_
      rintro e w9 ⟨rfl,hm9⟩
      have HM9:=zh (HM8.out.trans hm9)
      have HR9:=zh (hm9.keep HR8.out (fun f=>f))
      have HV9:=zh (hm9.keep HV8.out (fun f=>f))
      have HP9:=zh (HP8.out.kn hm9)
      have HAN:=zh (show (pr.any fun x=>!markB x) = !(pr.all markB) by rw [List.not_all_eq_any_not])
      clear hm9 c0 c1 c2 c3 f0 f1 f2 f3 HCF2
      obtain ⟨⟨d0,d1,d2,d3⟩,g0,g1,g2,g3⟩:=cells4 HR9.out
      rcases hb:(pr.any fun x=>!markB x) with _ | _
      ·have HN:=zh (show verOf l=some ⟨a,b,c,pr⟩ by
        have hq:pr.all markB=true:=by rw [hb] at HAN;simpa using HAN.out.symm
        rw [HV2.out,HPK.out,decide_eq_true (by omega:pr.length<=5),hq];rfl)
       have hl0:=load_ver HV9.out
       obtain ⟨⟨c0,c1,c2,c3⟩,-⟩:=cells4 HV9.out
       go_wp2_with fail
       have hl:=load_ver (set4 HR9.out (.int .i64 a) (.int .i64 b) (.int .i64 c) (.slice qa pr.length qc))
       have HM10:=zh (HM9.out.set4 (b:=rb) (fun h=>by have:=HRB.out;omega) (.int .i64 a) (.int .i64 b) (.int .i64 c) (.slice qa pr.length qc))
       have HP10:=zh (HP9.out.keep (Mod.set4 (S:=fun p=>p=rb) (b:=rb) (Mod.refl _ w9) (fun _=>rfl) (.int .i64 a) (.int .i64 b) (.int .i64 c) (.slice qa pr.length qc)) (fun k cur fz hk _ hc=>by subst hk;rw [HR9.out] at hc;cases hc))
       exact bodyPost_ret (v:=.tuple #[verV ⟨a,b,c,pr⟩ (.slice qa pr.length qc),.int .i64 0]) (by simp [results,results158,asAddr,hl]) rfl (fin hR ⟨.inr ⟨_,_,HN.out,rfl,HP10.out⟩,HM10.out⟩)
      ·have HN:=zh (show verOf l=none by
        have hq:pr.all markB=false:=by rw [hb] at HAN;simpa using HAN.out.symm
        rw [HV2.out,HPK.out,hq,Bool.and_false];rfl)
       go_wp2_with fail
       have hl:=load_ver (set4 HR9.out (.int .i64 0) (.int .i64 0) (.int .i64 0) (.slice none 0 0))
       have HM10:=zh (HM9.out.set4 (b:=rb) (fun h=>by have:=HRB.out;omega) (.int .i64 0) (.int .i64 0) (.int .i64 0) (.slice none 0 0))
       exact bodyPost_ret (v:=.tuple #[verV ⟨0,0,0,[]⟩ (.slice none 0 0),.int .i64 60]) (by simp [results,results158,asAddr,hl]) rfl (fin hR ⟨.inl ⟨HN.out,rfl⟩,HM10.out⟩)
    ·rw [decide_eq_false h45]
     have HN:=zh (show verOf l=some ⟨a,b,c,[]⟩ by
      rw [HV2.out,if_pos (by unfold preOk;rw [decide_eq_true h45];rfl),show preOf l=[] from if_neg h45])
     obtain ⟨⟨d0,d1,d2,d3⟩,g0,g1,g2,g3⟩:=cells4 HR6.out
     obtain ⟨⟨c0,c1,c2,c3⟩,-⟩:=cells4 HV6.out
     go_wp2_with fail
     have hl:=load_ver (set4 HR6.out (.int .i64 a) (.int .i64 b) (.int .i64 c) (.slice none 0 0))
     have HM9:=zh (HM6.out.set4 (b:=rb) (fun h=>by have:=HRB.out;omega) (.int .i64 a) (.int .i64 b) (.int .i64 c) (.slice none 0 0))
     exact bodyPost_ret (v:=.tuple #[verV ⟨a,b,c,[]⟩ (.slice none 0 0),.int .i64 0]) (by simp [results,results158,asAddr,hl]) rfl (fin hR ⟨.inr ⟨_,_,HN.out,rfl,.inl ⟨rfl,rfl,rfl⟩⟩,HM9.out⟩)
 ·have h3i:((ps.length:Int) != 3)=true:=by simp;omega
  have HN:=zh (hv3 h3)
  clear hx1 hv3 h3v
  obtain ⟨⟨c0,c1,c2,c3⟩,f0,f1,f2,f3⟩:=cells4 HR4.out
  go_wp2_with fail
  have hl:=load_ver (set4 HR4.out (.int .i64 0) (.int .i64 0) (.int .i64 0) (.slice none 0 0))
  have HM5:=zh (HM4.out.set4 (b:=rb) (fun h=>by have:=HRB.out;omega) (.int .i64 0) (.int .i64 0) (.int .i64 0) (.slice none 0 0))
  exact bodyPost_ret (v:=.tuple #[verV ⟨0,0,0,[]⟩ (.slice none 0 0),.int .i64 60]) (by simp [results,results158,asAddr,hl]) rfl (fin hR ⟨.inl ⟨HN.out,rfl⟩,HM5.out⟩)
set_option maxRecDepth 100000 in
set_option maxHeartbeats 8000000 in
theorem word_any (l:List UInt8) (hl:l.length<=1000000) (w:World) (hgl:Gl w) :
  Calls prog 269 #[strV l] w fun e w'=>((boundsL l=none/\e=.returned (.tuple #[.slice none 0 0,.bool false]))\/∃ bs v,boundsL l=some bs/\e=.returned (.tuple #[v,.bool true])/\BndsX (Old w) w' v bs)/\Mod No w w':=by
 refine calls_hide fun R hR=>?_
 have HB:=zh (show boundsL l=(verOf (l.drop (signL l).length)).map (boundsV (signL l)) from rfl)
 have HSG:=zh (signed_any l w)
 have HVO:=zh (fun w h=>verparse_any (l.drop (signL l).length) (by rw [List.length_drop];omega) w h)
 have HGL:=zh hgl
 generalize signL l=sg at *
 have HSN:=zh (str_list sg)
 clear hgl
 unfold strV at *
 generalize (⟨l.toArray⟩:ByteArray)=Z at *
 generalize (⟨sg.toArray⟩:ByteArray)=G at *
 generalize (⟨(l.drop sg.length).toArray⟩:ByteArray)=D at *
 go_enter func269,ntmps269
 go_wp2_with fail
 with_reducible refine HSG.out.mono ?_
 rintro e w3 ⟨rfl,hm3⟩
 have HM3:=zh hm3
 have HG3:=zh (HGL.out.stay hm3 (fun f=>f))
 clear hm3 HGL HSG
 go_wp2_with fail
 with_reducible refine (HVO.out _ HG3.out).mono ?_
 rintro e w4 ⟨hv,hm4⟩
 rcases hv with ⟨hn,rfl⟩ | ⟨⟨a,b,d,pr⟩,pv,hv,rfl,hp⟩
 ·have HN:=zh (show boundsL l=none by rw [HB.out,hn];rfl)
  have HM4:=zh (HM3.out.trans hm4)
  clear hn hm4 HB HVO
  go_wp2_with fail
  exact fin hR ⟨.inl ⟨HN.out,rfl⟩,HM4.out.alloc _⟩
 ·have HOK:=zh (verOf_ok hv)
  have HY:=zh (show boundsL l=some (boundsV sg ⟨a,b,d,pr⟩) by rw [HB.out,hv];rfl)
  obtain ⟨pa,pc,rfl⟩:=hp.len
  dsimp only at *
  have HP4:=zh (hp.shrink (Y:=Old w) (fun k _ h=>Nat.lt_of_lt_of_le h HM3.out.size))
  have HM4:=zh (HM3.out.trans hm4)
  clear hv hm4 hp HB HVO HM3
  go_upto_region 3 with fail
  obtain ⟨gv,hgv⟩:∃ g,g=w4.heap.size:=⟨_,rfl⟩
  rw [<- hgv]
  generalize hw6:World.alloc w4 _=w6
  have HM6:=zh (show Mod No w w6 by rw [<- hw6];exact HM4.out.alloc _)
  have HP6:=zh (show Sl w6 (Old w) 9 (.slice pa pr.length pc) pr.length (strs pr) by rw [<- hw6];exact HP4.out.keep (S:=No) ((Mod.refl No w4).alloc _) (fun _ _ _ f=>f.elim))
  have HV6:=zh (show w6.heap[gv]? = some (.cells #[.int .i64 a,.int .i64 b,.int .i64 d,.slice pa pr.length pc] 45 (0,0)) by rw [<- hw6,hgv];exact heap_alloc_new w4 _)
  clear hw6 hgv HM4 HP4
  obtain ⟨⟨c0,c1,c2,c3⟩,-⟩:=cells4 HV6.out
  by_cases s0:sg=[]
  ·subst s0
   have hg:G.toList=[]:=HSN.out
   have HY6:=zh (show boundsL l=some [⟨[61],⟨a,b,d,pr⟩⟩] by rw [HY.out];rfl)
   clear HSN HY HOK
   go_wp2_with fail
   exact fin hR ⟨.inr ⟨_,_,HY6.out,rfl,bndsX_new w6 [⟨⟨[61],⟨a,b,d,pr⟩⟩,.slice pa pr.length pc⟩] (fun x hx=>by
    rcases List.mem_cons.1 hx with rfl | hx
    ·exact HP6.out
    ·cases hx) (Nat.le_of_ble_eq_true rfl) (fun h=>Nat.lt_irrefl _ (Nat.lt_of_lt_of_le h HM6.out.size))⟩,HM6.out.alloc _⟩
  ·have hg0:G.toList.isEmpty=false:=by rw [HSN.out];simpa using s0
   by_cases s1:sg=[94]
   ·subst s1
    have hg:G.toList=[94]:=HSN.out
    have HYC:=zh (show boundsL l=some [⟨[62,61],⟨a,b,d,pr⟩⟩,⟨[60],nextV ⟨a,b,d,pr⟩ (if 0 < a then 0 else if 0 < b then 1 else 2)⟩] by rw [HY.out];rfl)
    have hb0:=HOK.out.mi.1
    dsimp only at hb0
    clear HSN HY hg0 s0
    by_cases ha:0 < a
    ·have hyc:=HYC.out
     rw [if_pos ha] at hyc
     clear HYC
     have HY6:=zh hyc
     have HNX:=zh (show ∀ w,Calls prog 302 #[.agg #[.int .i64 a,.int .i64 b,.int .i64 d,.slice pa pr.length pc],.int .i64 0] w fun e w'=>e=.returned (verV (nextV ⟨a,b,d,pr⟩ 0) (.slice none 0 0))/\Mod No w w' from fun w=>next_any ⟨a,b,d,pr⟩ (.slice pa pr.length pc) 0 (by decide) HOK.out w)
     have HNP:=zh (nextV_pre ⟨a,b,d,pr⟩ 0)
     generalize nextV ⟨a,b,d,pr⟩ 0=nx at *
     obtain ⟨n0,n1,n2,npr⟩:=nx
     obtain rfl:npr=[]:=HNP.out
     clear HNP
     go_upto_region 15 with fail
     obtain ⟨wA,hwA⟩:∃ z,z=w6.drew:=⟨_,rfl⟩
     have HMA:=zh (show Mod No w wA by rw [hwA];exact HM6.out.drew)
     have HPA:=zh (show Sl wA (Old w) 9 (.slice pa pr.length pc) pr.length (strs pr) by rw [hwA];exact HP6.out.keep (S:=No) (Mod.refl No w6).drew (fun _ _ _ f=>f.elim))
     have HSM:=zh (show ∀ w',Mod No wA w'->w'.cell? ⟨gv,0,none⟩=some (.int .i64 a)/\w'.cell? ⟨gv,1,none⟩=some (.int .i64 b)/\w'.cell? ⟨gv,2,none⟩=some (.int .i64 d)/\w'.cell? ⟨gv,3,none⟩=some (.slice pa pr.length pc) from fun w' hm=>by
      have hm6:Mod No w6 w':=by rw [hwA] at hm;exact (Mod.refl No w6).drew.trans hm
      have hv:=hm6.keep HV6.out (fun f=>f)
      exact ⟨cell_ofA hv rfl,cell_ofA hv rfl,cell_ofA hv rfl,cell_ofA hv rfl⟩)
     have hS0:=HSM.out wA (Mod.refl _ _)
     have HWA:=zh hwA
     clear hwA c0 c1 c2 c3 HM6 HP6 HV6
     refine wp_region_T (fun w'=>w'.cell? ⟨gv,0,none⟩=some (.int .i64 a)/\w'.cell? ⟨gv,1,none⟩=some (.int .i64 b)/\w'.cell? ⟨gv,2,none⟩=some (.int .i64 d)/\w'.cell? ⟨gv,3,none⟩=some (.slice pa pr.length pc)) 99 (by kernel_rfl) ?_
     rw [<- HWA.out]
     clear HWA
     refine yS 0 39 hS0 ?_
     refine yS 1 40 hS0 ?_
     refine yS 2 41 hS0 ?_
     refine yS 3 42 hS0 ?_
     refine wpAnyT_one 4 rfl (by kernel_rfl) rfl ?_
     intro K hK
     go_simp
     go_at_call 302
     with_reducible refine (HNX.out _).mono ?_
     rintro e wB ⟨rfl,hB⟩
     have HMB:=zh hB
     clear hB
     show K _ _
     have hS1:=HSM.out wB HMB.out
     refine hK.out _ _ (fun _=>hS1) ?_
     clear hK K
     refine yS 5 44 hS1 ?_
     refine wpAnyT_one 6 rfl (by kernel_rfl) rfl ?_
     intro K hK
     go_simp
     show K _ _
     have hS2:=HSM.out (wB.alloc (.cells #[.string ⟨#[62,61]⟩,.int .i64 a,.int .i64 b,.int .i64 d,.slice pa pr.length pc,.string ⟨#[60]⟩,.int .i64 n0,.int .i64 n1,.int .i64 n2,.slice none 0 0] 255)) (HMB.out.alloc _)
     refine hK.out _ _ (fun _=>hS2) ?_
     clear hK K
     refine yS 7 2 hS2 ?_
     refine yT 8 (some 3) ?_ hS2 ?_ ?_
     rotate_left
     ·(intro w' hSw;obtain ⟨q0,q1,q2,q3⟩:=hSw;go_simp;try with_reducible rfl)
     simp only [Act.put]
     refine wpAnyT_done (by kernel_rfl) ?_ _
     go_wp2_with fail
     exact fin hR ⟨.inr ⟨_,_,HY6.out,rfl,bndsX_new wB [⟨⟨[62,61],⟨a,b,d,pr⟩⟩,.slice pa pr.length pc⟩,⟨⟨[60],⟨n0,n1,n2,[]⟩⟩,.slice none 0 0⟩] (fun x hx=>by
      rcases List.mem_cons.1 hx with rfl | hx
      ·exact HPA.out.keep (S:=No) HMB.out (fun _ _ _ f=>f.elim)
      ·rcases List.mem_cons.1 hx with rfl | hx
       ·exact .inl ⟨rfl,rfl,rfl⟩
       ·cases hx) (Nat.le_of_ble_eq_true rfl) (fun h=>Nat.lt_irrefl _ (Nat.lt_of_lt_of_le h (HMA.out.trans HMB.out).size))⟩,HMA.out.trans (HMB.out.alloc _)⟩
    ·have ha':a<=0:=by omega
     by_cases hb:0 < b
     ·have hyc:=HYC.out
      rw [if_neg ha,if_pos hb] at hyc
      have hbb:(b == 0)=false:=by simp;omega
      clear HYC
      have HY6:=zh hyc
      have HNX:=zh (show ∀ w,Calls prog 302 #[.agg #[.int .i64 a,.int .i64 b,.int .i64 d,.slice pa pr.length pc],.int .i64 1] w fun e w'=>e=.returned (verV (nextV ⟨a,b,d,pr⟩ 1) (.slice none 0 0))/\Mod No w w' from fun w=>next_any ⟨a,b,d,pr⟩ (.slice pa pr.length pc) 1 (by decide) HOK.out w)
      have HNP:=zh (nextV_pre ⟨a,b,d,pr⟩ 1)
      generalize nextV ⟨a,b,d,pr⟩ 1=nx at *
      obtain ⟨n0,n1,n2,npr⟩:=nx
      obtain rfl:npr=[]:=HNP.out
      clear HNP
      go_upto_region 15 with fail
      obtain ⟨wA,hwA⟩:∃ z,z=w6.drew:=⟨_,rfl⟩
      have HMA:=zh (show Mod No w wA by rw [hwA];exact HM6.out.drew)
      have HPA:=zh (show Sl wA (Old w) 9 (.slice pa pr.length pc) pr.length (strs pr) by rw [hwA];exact HP6.out.keep (S:=No) (Mod.refl No w6).drew (fun _ _ _ f=>f.elim))
      have HSM:=zh (show ∀ w',Mod No wA w'->w'.cell? ⟨gv,0,none⟩=some (.int .i64 a)/\w'.cell? ⟨gv,1,none⟩=some (.int .i64 b)/\w'.cell? ⟨gv,2,none⟩=some (.int .i64 d)/\w'.cell? ⟨gv,3,none⟩=some (.slice pa pr.length pc) from fun w' hm=>by
       have hm6:Mod No w6 w':=by rw [hwA] at hm;exact (Mod.refl No w6).drew.trans hm
       have hv:=hm6.keep HV6.out (fun f=>f)
       exact ⟨cell_ofA hv rfl,cell_ofA hv rfl,cell_ofA hv rfl,cell_ofA hv rfl⟩)
      have hS0:=HSM.out wA (Mod.refl _ _)
      have HWA:=zh hwA
      clear hwA c0 c1 c2 c3 HM6 HP6 HV6
      refine wp_region_T (fun w'=>w'.cell? ⟨gv,0,none⟩=some (.int .i64 a)/\w'.cell? ⟨gv,1,none⟩=some (.int .i64 b)/\w'.cell? ⟨gv,2,none⟩=some (.int .i64 d)/\w'.cell? ⟨gv,3,none⟩=some (.slice pa pr.length pc)) 99 (by kernel_rfl) ?_
      rw [<- HWA.out]
      clear HWA
      refine yS 0 39 hS0 ?_
      refine yS 1 40 hS0 ?_
      refine yS 2 41 hS0 ?_
      refine yS 3 42 hS0 ?_
      refine wpAnyT_one 4 rfl (by kernel_rfl) rfl ?_
      intro K hK
      go_simp
      go_at_call 302
      with_reducible refine (HNX.out _).mono ?_
      rintro e wB ⟨rfl,hB⟩
      have HMB:=zh hB
      clear hB
      show K _ _
      have hS1:=HSM.out wB HMB.out
      refine hK.out _ _ (fun _=>hS1) ?_
      clear hK K
      refine yS 5 44 hS1 ?_
      refine wpAnyT_one 6 rfl (by kernel_rfl) rfl ?_
      intro K hK
      go_simp
      show K _ _
      have hS2:=HSM.out (wB.alloc (.cells #[.string ⟨#[62,61]⟩,.int .i64 a,.int .i64 b,.int .i64 d,.slice pa pr.length pc,.string ⟨#[60]⟩,.int .i64 n0,.int .i64 n1,.int .i64 n2,.slice none 0 0] 255)) (HMB.out.alloc _)
      refine hK.out _ _ (fun _=>hS2) ?_
      clear hK K
      refine yS 7 2 hS2 ?_
      refine yT 8 (some 3) ?_ hS2 ?_ ?_
      rotate_left
      ·(intro w' hSw;obtain ⟨q0,q1,q2,q3⟩:=hSw;go_simp;try with_reducible rfl)
      simp only [Act.put]
      refine wpAnyT_done (by kernel_rfl) ?_ _
      go_wp2_with fail
      exact fin hR ⟨.inr ⟨_,_,HY6.out,rfl,bndsX_new wB [⟨⟨[62,61],⟨a,b,d,pr⟩⟩,.slice pa pr.length pc⟩,⟨⟨[60],⟨n0,n1,n2,[]⟩⟩,.slice none 0 0⟩] (fun x hx=>by
       rcases List.mem_cons.1 hx with rfl | hx
       ·exact HPA.out.keep (S:=No) HMB.out (fun _ _ _ f=>f.elim)
       ·rcases List.mem_cons.1 hx with rfl | hx
        ·exact .inl ⟨rfl,rfl,rfl⟩
        ·cases hx) (Nat.le_of_ble_eq_true rfl) (fun h=>Nat.lt_irrefl _ (Nat.lt_of_lt_of_le h (HMA.out.trans HMB.out).size))⟩,HMA.out.trans (HMB.out.alloc _)⟩
     ·obtain rfl:b=0:=by omega
      have hyc:=HYC.out
      rw [if_neg ha,if_neg hb] at hyc
      clear HYC hb
      have HY6:=zh hyc
      have HNX:=zh (show ∀ w,Calls prog 302 #[.agg #[.int .i64 a,.int .i64 0,.int .i64 d,.slice pa pr.length pc],.int .i64 2] w fun e w'=>e=.returned (verV (nextV ⟨a,0,d,pr⟩ 2) (.slice none 0 0))/\Mod No w w' from fun w=>next_any ⟨a,0,d,pr⟩ (.slice pa pr.length pc) 2 (by decide) HOK.out w)
      have HNP:=zh (nextV_pre ⟨a,0,d,pr⟩ 2)
      generalize nextV ⟨a,0,d,pr⟩ 2=nx at *
      obtain ⟨n0,n1,n2,npr⟩:=nx
      obtain rfl:npr=[]:=HNP.out
      clear HNP
      go_upto_region 15 with fail
      obtain ⟨wA,hwA⟩:∃ z,z=w6.drew:=⟨_,rfl⟩
      have HMA:=zh (show Mod No w wA by rw [hwA];exact HM6.out.drew)
      have HPA:=zh (show Sl wA (Old w) 9 (.slice pa pr.length pc) pr.length (strs pr) by rw [hwA];exact HP6.out.keep (S:=No) (Mod.refl No w6).drew (fun _ _ _ f=>f.elim))
      have HSM:=zh (show ∀ w',Mod No wA w'->w'.cell? ⟨gv,0,none⟩=some (.int .i64 a)/\w'.cell? ⟨gv,1,none⟩=some (.int .i64 0)/\w'.cell? ⟨gv,2,none⟩=some (.int .i64 d)/\w'.cell? ⟨gv,3,none⟩=some (.slice pa pr.length pc) from fun w' hm=>by
       have hm6:Mod No w6 w':=by rw [hwA] at hm;exact (Mod.refl No w6).drew.trans hm
       have hv:=hm6.keep HV6.out (fun f=>f)
       exact ⟨cell_ofA hv rfl,cell_ofA hv rfl,cell_ofA hv rfl,cell_ofA hv rfl⟩)
      have hS0:=HSM.out wA (Mod.refl _ _)
      have HWA:=zh hwA
      clear hwA c0 c1 c2 c3 HM6 HP6 HV6
      refine wp_region_T (fun w'=>w'.cell? ⟨gv,0,none⟩=some (.int .i64 a)/\w'.cell? ⟨gv,1,none⟩=some (.int .i64 0)/\w'.cell? ⟨gv,2,none⟩=some (.int .i64 d)/\w'.cell? ⟨gv,3,none⟩=some (.slice pa pr.length pc)) 99 (by kernel_rfl) ?_
      rw [<- HWA.out]
      clear HWA
      refine yS 0 39 hS0 ?_
      refine yS 1 40 hS0 ?_
      refine yS 2 41 hS0 ?_
      refine yS 3 42 hS0 ?_
      refine wpAnyT_one 4 rfl (by kernel_rfl) rfl ?_
      intro K hK
      go_simp
      go_at_call 302
      with_reducible refine (HNX.out _).mono ?_
      rintro e wB ⟨rfl,hB⟩
      have HMB:=zh hB
      clear hB
      show K _ _
      have hS1:=HSM.out wB HMB.out
      refine hK.out _ _ (fun _=>hS1) ?_
      clear hK K
      refine yS 5 44 hS1 ?_
      refine wpAnyT_one 6 rfl (by kernel_rfl) rfl ?_
      intro K hK
      go_simp
      show K _ _
      have hS2:=HSM.out (wB.alloc (.cells #[.string ⟨#[62,61]⟩,.int .i64 a,.int .i64 0,.int .i64 d,.slice pa pr.length pc,.string ⟨#[60]⟩,.int .i64 n0,.int .i64 n1,.int .i64 n2,.slice none 0 0] 255)) (HMB.out.alloc _)
      refine hK.out _ _ (fun _=>hS2) ?_
      clear hK K
      refine yS 7 2 hS2 ?_
      refine yT 8 (some 3) ?_ hS2 ?_ ?_
      rotate_left
      ·(intro w' hSw;obtain ⟨q0,q1,q2,q3⟩:=hSw;go_simp;try with_reducible rfl)
      simp only [Act.put]
      refine wpAnyT_done (by kernel_rfl) ?_ _
      go_wp2_with fail
      exact fin hR ⟨.inr ⟨_,_,HY6.out,rfl,bndsX_new wB [⟨⟨[62,61],⟨a,0,d,pr⟩⟩,.slice pa pr.length pc⟩,⟨⟨[60],⟨n0,n1,n2,[]⟩⟩,.slice none 0 0⟩] (fun x hx=>by
       rcases List.mem_cons.1 hx with rfl | hx
       ·exact HPA.out.keep (S:=No) HMB.out (fun _ _ _ f=>f.elim)
       ·rcases List.mem_cons.1 hx with rfl | hx
        ·exact .inl ⟨rfl,rfl,rfl⟩
        ·cases hx) (Nat.le_of_ble_eq_true rfl) (fun h=>Nat.lt_irrefl _ (Nat.lt_of_lt_of_le h (HMA.out.trans HMB.out).size))⟩,HMA.out.trans (HMB.out.alloc _)⟩
   ·have hg1:(G.toList == [94])=false:=by rw [HSN.out];simpa using s1
    by_cases s2:sg=[126]
    ·subst s2
     have hg:G.toList=[126]:=HSN.out
     have hyc:boundsL l=some [⟨[62,61],⟨a,b,d,pr⟩⟩,⟨[60],nextV ⟨a,b,d,pr⟩ 1⟩]:=by rw [HY.out];rfl
     clear HSN HY hg0 s0 hg1 s1
     have HY6:=zh hyc
     have HNX:=zh (show ∀ w,Calls prog 302 #[.agg #[.int .i64 a,.int .i64 b,.int .i64 d,.slice pa pr.length pc],.int .i64 1] w fun e w'=>e=.returned (verV (nextV ⟨a,b,d,pr⟩ 1) (.slice none 0 0))/\Mod No w w' from fun w=>next_any ⟨a,b,d,pr⟩ (.slice pa pr.length pc) 1 (by decide) HOK.out w)
     have HNP:=zh (nextV_pre ⟨a,b,d,pr⟩ 1)
     generalize nextV ⟨a,b,d,pr⟩ 1=nx at *
     obtain ⟨n0,n1,n2,npr⟩:=nx
     obtain rfl:npr=[]:=HNP.out
     clear HNP
     go_upto_region 15 with fail
     obtain ⟨wA,hwA⟩:∃ z,z=w6.drew:=⟨_,rfl⟩
     have HMA:=zh (show Mod No w wA by rw [hwA];exact HM6.out.drew)
     have HPA:=zh (show Sl wA (Old w) 9 (.slice pa pr.length pc) pr.length (strs pr) by rw [hwA];exact HP6.out.keep (S:=No) (Mod.refl No w6).drew (fun _ _ _ f=>f.elim))
     have HSM:=zh (show ∀ w',Mod No wA w'->w'.cell? ⟨gv,0,none⟩=some (.int .i64 a)/\w'.cell? ⟨gv,1,none⟩=some (.int .i64 b)/\w'.cell? ⟨gv,2,none⟩=some (.int .i64 d)/\w'.cell? ⟨gv,3,none⟩=some (.slice pa pr.length pc) from fun w' hm=>by
      have hm6:Mod No w6 w':=by rw [hwA] at hm;exact (Mod.refl No w6).drew.trans hm
      have hv:=hm6.keep HV6.out (fun f=>f)
      exact ⟨cell_ofA hv rfl,cell_ofA hv rfl,cell_ofA hv rfl,cell_ofA hv rfl⟩)
     have hS0:=HSM.out wA (Mod.refl _ _)
     have HWA:=zh hwA
     clear hwA c0 c1 c2 c3 HM6 HP6 HV6
     refine wp_region_T (fun w'=>w'.cell? ⟨gv,0,none⟩=some (.int .i64 a)/\w'.cell? ⟨gv,1,none⟩=some (.int .i64 b)/\w'.cell? ⟨gv,2,none⟩=some (.int .i64 d)/\w'.cell? ⟨gv,3,none⟩=some (.slice pa pr.length pc)) 99 (by kernel_rfl) ?_
     rw [<- HWA.out]
     clear HWA
     refine yS 0 39 hS0 ?_
     refine yS 1 40 hS0 ?_
     refine yS 2 41 hS0 ?_
     refine yS 3 42 hS0 ?_
     refine wpAnyT_one 4 rfl (by kernel_rfl) rfl ?_
     intro K hK
     go_simp
     go_at_call 302
     with_reducible refine (HNX.out _).mono ?_
     rintro e wB ⟨rfl,hB⟩
     have HMB:=zh hB
     clear hB
     show K _ _
     have hS1:=HSM.out wB HMB.out
     refine hK.out _ _ (fun _=>hS1) ?_
     clear hK K
     refine yS 5 44 hS1 ?_
     refine wpAnyT_one 6 rfl (by kernel_rfl) rfl ?_
     intro K hK
     go_simp
     show K _ _
     have hS2:=HSM.out (wB.alloc (.cells #[.string ⟨#[62,61]⟩,.int .i64 a,.int .i64 b,.int .i64 d,.slice pa pr.length pc,.string ⟨#[60]⟩,.int .i64 n0,.int .i64 n1,.int .i64 n2,.slice none 0 0] 255)) (HMB.out.alloc _)
     refine hK.out _ _ (fun _=>hS2) ?_
     clear hK K
     refine yS 7 2 hS2 ?_
     refine yT 8 (some 3) ?_ hS2 ?_ ?_
     rotate_left
     ·(intro w' hSw;obtain ⟨q0,q1,q2,q3⟩:=hSw;go_simp;try with_reducible rfl)
     simp only [Act.put]
     refine wpAnyT_done (by kernel_rfl) ?_ _
     go_wp2_with fail
     exact fin hR ⟨.inr ⟨_,_,HY6.out,rfl,bndsX_new wB [⟨⟨[62,61],⟨a,b,d,pr⟩⟩,.slice pa pr.length pc⟩,⟨⟨[60],⟨n0,n1,n2,[]⟩⟩,.slice none 0 0⟩] (fun x hx=>by
      rcases List.mem_cons.1 hx with rfl | hx
      ·exact HPA.out.keep (S:=No) HMB.out (fun _ _ _ f=>f.elim)
      ·rcases List.mem_cons.1 hx with rfl | hx
       ·exact .inl ⟨rfl,rfl,rfl⟩
       ·cases hx) (Nat.le_of_ble_eq_true rfl) (fun h=>Nat.lt_irrefl _ (Nat.lt_of_lt_of_le h (HMA.out.trans HMB.out).size))⟩,HMA.out.trans (HMB.out.alloc _)⟩
    ·have hg2:(G.toList == [126])=false:=by rw [HSN.out];simpa using s2
     have HY6:=zh (show boundsL l=some [⟨sg,⟨a,b,d,pr⟩⟩] by rw [HY.out];unfold boundsV;rw [if_neg s0,if_neg s1,if_neg s2])
     have HGS:=zh (show (Value.string G)=.string ⟨sg.toArray⟩ from congrArg Value.string (bytes_of_list HSN.out))
     clear HY HOK HSN s0 s1 s2
     go_wp2_with fail
     rw [HGS.out]
     exact fin hR ⟨.inr ⟨_,_,HY6.out,rfl,bndsX_new w6 [⟨⟨sg,⟨a,b,d,pr⟩⟩,.slice pa pr.length pc⟩] (fun x hx=>by
      rcases List.mem_cons.1 hx with rfl | hx
      ·exact HP6.out
      ·cases hx) (Nat.le_of_ble_eq_true rfl) (fun h=>Nat.lt_irrefl _ (Nat.lt_of_lt_of_le h HM6.out.size))⟩,HM6.out.alloc _⟩
theorem blank_any (x:Nat) (w:World):Calls prog 268 #[.int .i32 (x:Int)] w fun e w'=>e=.returned (.bool (x == 32))/\Mod No w w':=by
 refine calls_hide fun R hR=>?_
 have h0:(0:Int)<=(x:Int):=Int.natCast_nonneg _
 go_enter func268,ntmps268
 by_cases hx:x=32
 ·subst hx
  go_wp2_with fail
  exact fin hR ⟨rfl,Mod.refl _ _⟩
 ·have hx2:((x:Int) == 32)=false:=by simp;omega
  have hx3:(x == 32)=false:=by simpa using hx
  go_wp2_with fail
  exact fin hR ⟨(by rw [hx3];try rfl),Mod.refl _ _⟩
set_option maxRecDepth 100000 in
theorem fields_any (l:List UInt8) (hl:l.length<=1000000) (w:World):Calls prog 267 #[strV l,.func (.func 268) #[] #[]] w fun e w' =>
  ∃ v,e=.returned v/\w'.ownsRow w.heap.size 9 1 v (wordsL l).length (strs (wordsL l))/\Mod No w w':=by
 have hp:PredGrows prog 268 #[] (fun r=>r == 32) w:=fun W x _ _=>(blank_any x W).mono fun e w' ⟨he,hm⟩=>⟨he,hm.below⟩
 have hw:=fields_words l
 refine (Tryz.strings_FieldsFunc_grows 268 #[] (fun _ _=>rfl) (fun r=>r == 32) ⟨l.toArray⟩ w (by rw [str_len3];omega) hp).mono fun e w' ⟨A,he,hA,ho,hb⟩=>?_
 have e1:(Lib.goFieldsP (fun r=>r == 32) ⟨l.toArray⟩).map Value.string=strs (wordsL l):=by
  rw [hw,List.map_map];rfl
 have e2:(Lib.goFieldsP (fun r=>r == 32) ⟨l.toArray⟩).length=(wordsL l).length:=by rw [hw,List.length_map]
 rw [e1,e2] at ho
 exact ⟨_,he.trans (by rw [e2]),ho,Mod.of_below hb⟩
theorem trim_any (l:List UInt8) (hl:l.length<=1000000) (w:World):Calls prog 266 #[strV l,.string ⟨#[32]⟩] w fun e w'=>e=.returned (strV (Lib.trimB l 32))/\Mod No w w' :=
 (Tryz.strings_Trim_one ⟨l.toArray⟩ 32 (by decide) w (by rw [str_len3];omega)).mono fun e w' ⟨he,hw⟩=>⟨he,by
  rcases hw with rfl | rfl
  ·exact Mod.refl _ _
  ·exact (Mod.refl No w).drew⟩
theorem pref_get {d p:List UInt8}:(d++[47]).isPrefixOf p=(decide (d.length < p.length) && decide (p.take d.length=d) && decide (p[d.length]? = some 47)):=by
 by_cases h:(d++[47]) <+: p
 ·obtain ⟨t,ht⟩:=h
  rw [List.isPrefixOf_iff_prefix.2 ⟨t,ht⟩,<- ht]
  simp
 ·have h2:(d++[47]).isPrefixOf p=false:=by
   cases hb:(d++[47]).isPrefixOf p with
   | false=>rfl
   | true=>exact absurd (List.isPrefixOf_iff_prefix.1 hb) h
  rw [h2]
  symm
  rw [<- Bool.not_eq_true]
  intro hc
  simp only [Bool.and_eq_true,decide_eq_true_eq] at hc
  obtain ⟨⟨h3,h4⟩,h5⟩:=hc
  refine h ⟨p.drop (d.length+1),?_⟩
  conv=>rhs;rw [<- List.take_append_drop (d.length+1) p]
  congr 1
  rw [List.take_add_one,h4,h5]
  rfl
set_option maxRecDepth 100000 in
set_option maxHeartbeats 4000000 in
theorem refwithin_any (p d:List UInt8) (w:World) :
  Calls prog 17 #[strV p,strV d] w fun e w'=>e=.returned (.bool (withinB p d))/\w'=w:=by
 refine calls_hide fun R hR=>?_
 have HW:=zh (show withinB p d=(d.isEmpty || decide (p=d) || (d++[47]).isPrefixOf p) from rfl)
 rw [pref_get] at HW
 have hz1:=str_len3 p
 have hz2:=str_len3 d
 have hT1:=str_list p
 have hT2:=str_list d
 have HTK:=zh (str_to p d.length)
 have HTL:=zh (str_list (p.take d.length))
 have HX:=zh (run_at p)
 unfold strV at *
 generalize withinB p d=r at *
 generalize (⟨(p.take d.length).toArray⟩:ByteArray)=T1 at *
 generalize (⟨p.toArray⟩:ByteArray)=P1 at *
 generalize (⟨d.toArray⟩:ByteArray)=D1 at *
 go_enter func17,ntmps17
 by_cases h0:d=[]
 ·subst h0
  have HR:=zh (show r=true by rw [HW.out];rfl)
  clear HW HX HTK HTL
  go_wp2_with fail
  refine fin hR ⟨bool_ret ?_,rfl⟩
  rw [HR.out]
 have hne:(d.isEmpty)=false:=by simpa using h0
 by_cases h1:p=d
 ·subst h1
  have HR:=zh (show r=true by rw [HW.out];simp)
  have h12:P1=D1:=by rw [bytes_of_toList hT1,bytes_of_toList hT2]
  subst h12
  clear HW HX HTK HTL
  go_wp2_with fail
  refine fin hR ⟨bool_ret ?_,rfl⟩
  rw [HR.out]
 have he:(p == d)=false:=by simpa using h1
 rw [hne,decide_eq_false h1] at HW
 by_cases hlt:d.length < p.length
 ·have hltI:(d.length:Int) < (p.length:Int):=by omega
  rw [decide_eq_true hlt] at HW
  have htk:=HTK.out
  have htl:=HTL.out
  by_cases h4:p.take d.length=d
  ·have h4b:(p.take d.length == d)=true:=by simpa using h4
   have hx:=HX.out d.length hlt
   rw [decide_eq_true h4,List.getElem?_eq_getElem hlt] at HW
   generalize p[d.length]=c at *
   have HR:=zh (show r=((c.toNat:Int) == 47) by
    rw [HW.out]
    by_cases hc:c=47
    ·subst hc;rfl
    ·have:c.toNat ≠ 47:=fun e=>hc (by rw [<- UInt8.toNat_inj];exact e)
     have h9:((c.toNat:Int) == 47)=false:=by simp;omega
     rw [h9,decide_eq_false (by simpa using hc)];rfl)
   generalize p.take d.length=pt at *
   clear HW HX HTK HTL h0 h1 h4
   generalize (c.toNat:Int)=z at *
   go_wp2_with fail
   refine fin hR ⟨bool_ret ?_,rfl⟩
   rw [HR.out]
  ·have h4b:(p.take d.length == d)=false:=by simpa using h4
   have HR:=zh (show r=false by rw [HW.out,decide_eq_false h4];rfl)
   generalize p.take d.length=pt at *
   clear HW HX HTK HTL h0 h1 h4
   go_wp2_with fail
   refine fin hR ⟨bool_ret ?_,rfl⟩
   rw [HR.out]
 ·have hltI:¬ (d.length:Int) < (p.length:Int):=by omega
  have HR:=zh (show r=false by rw [HW.out,decide_eq_false hlt];rfl)
  clear HW HX HTK HTL h0 h1 hlt
  go_wp2_with fail
  refine fin hR ⟨bool_ret ?_,rfl⟩
  rw [HR.out]
end Go.Proofs.YtmppeipgjcjdkaaGreatDoor
