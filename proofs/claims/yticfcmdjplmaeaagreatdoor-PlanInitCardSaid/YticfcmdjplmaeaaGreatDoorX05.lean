/-
  Layers 0 to 14: helps of the laws of indexes. No statement is proved here; no condition.
-/
import Derived.Test.YticfcmdjplmaeaaGreatDoorX02
import Derived.Test.YticfcmdjplmaeaaGreatDoorX04
import Derived.Test.YticfcmdjplmaeaaGreatDoorX00
import Derived.Test.YticfcmdjplmaeaaGreatDoorX01
import Derived.Test.YticfcmdjplmaeaaGreatDoorX03
set_option maxRecDepth 100000
set_option maxHeartbeats 64000000
namespace Go.Proofs.YticfcmdjplmaeaaGreatDoor
open _root_.Go.Proofs.Tryz
open Go.RowKit
theorem number_any (l:List UInt8) (hl:l.length<=1000000) (w:World):Calls prog 156 #[strV l] w fun e w'=>(∃ n:Int,e=.returned (.tuple #[.int .i64 n,.bool (numB l)])/\(numB l=true->n=(decV l:Int)))/\Mod No w w':=by
 refine calls_hide fun R hR=>?_
 have HZ:=zh (str_len3 l);have hT:=str_list l;have HDG:=zh (digits_any l hl);have HPL:=zh (plain_any l hl);have HAT:=zh (show digitsB l=true->l.length<=9->∀ W,Calls prog 208 #[strV l] W fun e w'=>e=.returned (.tuple #[.int .i64 (decV l:Int),.nilIface])/\Mod No W w' from fun h h9 W =>
  (Tryz.strconv_Atoi ⟨l.toArray⟩ (decV l) (by rw [HZ.out];omega) (atoi_dig h) W).mono fun e w' ⟨he,t,ht⟩=>⟨he,by
   rw [ht];exact ⟨rfl,rfl,rfl,by rw [Lib.bytesWorld_size];omega,fun k hk _=>Lib.bytesWorld_at_old W _ _ k hk⟩⟩)
 unfold strV at *;generalize (⟨l.toArray⟩:ByteArray)=Z at *;have hZs:(Z.size:Int)=(l.length:Int):=by rw [HZ.out]
 have HNB:=zh (show numB l=(digitsB l && decide (l.length<=9) && plainB l) from rfl);have HDN:=zh (nonempty_of_digits (l:=l));go_enter func156,ntmps156
 go_wp2_with fail
 with_reducible refine (HDG.out _).mono ?_
 rintro e w ⟨rfl,rfl⟩;rcases hd:digitsB l with _ | _
 ·go_wp2_with fail
  have hb:numB l=false:=by rw [HNB.out,hd];rfl
  refine fin hR ⟨⟨0,by rw [hb];rfl,fun h=>by rw [hb] at h;cases h⟩,Mod.refl _ _⟩
 by_cases h9:(9:Int) < (l.length:Int)
 ·go_wp2_with fail
  have hb:numB l=false:=by rw [HNB.out,decide_eq_false (by omega:¬ l.length<=9),Bool.and_false];rfl
  refine fin hR ⟨⟨0,by rw [hb];rfl,fun h=>by rw [hb] at h;cases h⟩,Mod.refl _ _⟩
 go_wp2_with fail
 with_reducible refine (HPL.out (HDN.out hd) _).mono ?_
 rintro e w ⟨rfl,rfl⟩;rcases hp:plainB l with _ | _
 ·go_wp2_with fail
  have hb:numB l=false:=by rw [HNB.out,hp,Bool.and_false]
  refine fin hR ⟨⟨0,by rw [hb];rfl,fun h=>by rw [hb] at h;cases h⟩,Mod.refl _ _⟩
 ·go_wp2_with fail
  with_reducible refine (HAT.out hd (by omega) _).mono ?_
  rintro e w1 ⟨rfl,hm⟩;have HM:=zh hm;clear hm;go_wp2_with fail
  have hb:numB l=true:=by rw [HNB.out,hd,hp,decide_eq_true (by omega:l.length<=9)];rfl
  refine fin hR ⟨⟨(decV l:Int),by rw [hb];rfl,fun _=>rfl⟩,HM.out⟩
def Gl (w:World):Prop:=∃ m,w.cell? ⟨2,0,none⟩=some (.int .i64 m)
theorem Gl.stay {S:Nat->Prop} {w w':World} (h:Gl w) (hm:Mod S w w') (hs:¬ S 2):Gl w':=by
 obtain ⟨m,hm2⟩:=h;exact ⟨m,hm.cell hm2 hs⟩
theorem split_any (c:UInt8) (l:List UInt8) (hl:l.length<=1000000) (w:World) (hg:Gl w) :
  Calls prog 112 #[strV l,.string ⟨#[c]⟩] w fun e w'=>∃ v,e=.returned v/\w'.ownsRow w.heap.size 9 1 v (splitC c l).length (strs (splitC c l))/\Mod No w w':=by
 obtain ⟨m,hm⟩:=hg;have hlen:=splitC_length_le c l;refine (Tryz.strings_Split ⟨l.toArray⟩ ⟨#[c]⟩ m w (by rw [str_len3];omega) hm (Nat.le_refl _)).mono fun e w' ⟨he,hw⟩=>?_
 have hs:=splitB_strs c l;have hn:Lib.countB ⟨l.toArray⟩ ⟨#[c]⟩+1=(splitC c l).length:=by
  rw [<- Lib.splitB_all ⟨#[c]⟩ (Nat.le_refl _) 0 _ ⟨l.toArray⟩ rfl,<- List.length_map (f:=Value.string),hs,strs_length]
 rw [hs] at hw;rw [hn] at he;refine ⟨_,he,?_,?_⟩
 ·rw [hw];have:=own_alloc (w:=w) (e:=9) (xs:=strs (splitC c l)) (by rw [strs_length];unfold maxLen;omega);rw [strs_length] at this;exact this
 ·rw [hw];exact (Mod.refl No w).alloc _
theorem cut_any (c:UInt8) (l:List UInt8) (hl:l.length<=1000000) (w:World) (hg:Gl w) :
  Calls prog 155 #[strV l,.string ⟨#[c]⟩] w fun e w'=>e=.returned (.tuple #[strV (headC c l),strV (tailC c l),.bool (decide (c ∈ l))])/\Mod No w w':=by
 obtain ⟨m,hm⟩:=hg;refine (Tryz.strings_Cut ⟨l.toArray⟩ ⟨#[c]⟩ m w (by rw [str_len3];omega) hm).mono fun e w' ⟨he,n,hw⟩=>?_
 have h:=cut_C c l;refine ⟨?_,by rw [hw];exact (Mod.refl No w).drewN n⟩
 rw [he];show Ending.returned (.tuple #[.string ⟨(Lib.cut l.toArray.toList [c]).1.toArray⟩,.string ⟨(Lib.cut l.toArray.toList [c]).2.1.toArray⟩,.bool (Lib.cut l.toArray.toList [c]).2.2])=_
 rw [List.toList_toArray,h]
theorem notmark_any (l:List UInt8) (hl:l.length<=1000000) (w:World):Calls prog 158 #[strV l] w fun e w'=>e=.returned (.bool (!markB l))/\Mod No w w':=by
 refine calls_hide fun R hR=>?_
 have HMK:=zh (mark_any l hl);generalize (⟨l.toArray⟩:ByteArray)=Z at *;go_enter func158,ntmps158
 go_wp2_with fail
 with_reducible refine (HMK.out _).mono ?_
 rintro e w ⟨rfl,rfl⟩;generalize markB l=b at *;go_wp2_with fail
 exact fin hR ⟨rfl,Mod.refl _ _⟩
abbrev Old (w:World):Nat->Prop:=fun p=>p < w.heap.size
theorem verparse_any (l:List UInt8) (hl:l.length<=1000000) (w:World) (hg:Gl w) :
  Calls prog 101 #[strV l] w fun e w'=>((verOf l=none/\e=.returned (.tuple #[verV ⟨0,0,0,[]⟩ (.slice none 0 0),.int .i64 60]))\/∃ v pv,verOf l=some v/\e=.returned (.tuple #[verV v pv,.int .i64 0])/\Sl w' (Old w) 9 pv v.pre.length (strs v.pre))/\Mod No w w':=by
 refine calls_hide fun R hR=>?_
 have HCUT:=zh (cut_any 45 l hl);have HSP:=zh (fun m (h:m.length<=l.length)=>split_any 46 m (by omega));have hh:=headC_le 45 l;have ht:=tailC_le 45 l;have HNUM:=zh (fun m (h:m.length<=l.length)=>number_any m (by omega));have HCF:=zh (fun (xs:List (List UInt8)) (h:∀ x ∈ xs,x.length<=l.length) (hx:xs.length<=1000000) v w hv=>containsfunc_strs 158 #[] (fun _ _=>rfl) (fun x=>!markB x) xs hx v w hv (fun i hi W _=>notmark_any xs[i] (by have:=h xs[i] (List.getElem_mem hi);omega) W));have HSM:=zh (splitC_mem_le 46);have HSL:=zh (splitC_length_le 46);have HVL:=zh (verOf_len (l:=l));have HG:=zh hg;clear hg;go_enter func101,ntmps101
 go_wp2_with fail
 obtain ⟨rb,hrb⟩:∃ g,g=w.heap.size:=⟨_,rfl⟩
 rw [<- hrb];generalize hw1:World.alloc w _=w1;have HM1:=zh (show Mod No w w1 by rw [<- hw1];exact (Mod.refl No w).alloc _);have HR1:=zh (show w1.heap[rb]? = some (.cells #[.int .i64 0,.int .i64 0,.int .i64 0,.slice none 0 0] 40 (0,0)) by rw [<- hw1,hrb];exact heap_alloc_new w _);have HRB:=zh hrb;clear hw1 hrb;with_reducible refine (HCUT.out _ (HG.out.stay HM1.out (fun f=>f))).mono ?_
 rintro e w2 ⟨rfl,hm2⟩;have HM2:=zh (HM1.out.trans hm2);have HR2:=zh (hm2.keep HR1.out (fun f=>f));clear hm2 HR1 HM1;go_wp2_with fail
 with_reducible refine (HSP.out _ hh _ (HG.out.stay HM2.out (fun f=>f))).mono ?_
 rintro e w3 ⟨pv,rfl,hown,hm3⟩;have HM3:=zh (HM2.out.trans hm3);have HR3:=zh (hm3.keep HR2.out (fun f=>f));have HP3:=zh (Sl.of_own (X:=No) hown (fun _ _ f=>f));clear hm3 HR2 HM2 hown;obtain ⟨pa,pc,rfl⟩:=HP3.out.len;go_upto_region 4 with fail
 obtain ⟨nb,hnb⟩:∃ g,g=w3.heap.size:=⟨_,rfl⟩
 rw [<- hnb];generalize hw4:World.alloc w3 _=w4;have HM4:=zh (show Mod No w w4 by rw [<- hw4];exact HM3.out.alloc _);have HR4:=zh (show w4.heap[rb]? = some (.cells #[.int .i64 0,.int .i64 0,.int .i64 0,.slice none 0 0] 40 (0,0)) by rw [<- hw4];exact heap_alloc_old _ HR3.out);have HN4:=zh (show w4.heap[nb]? = some (.cells #[.int .i64 0,.int .i64 0,.int .i64 0] 264 (0,0)) by rw [<- hw4,hnb];exact heap_alloc_new w3 _);have HP4:=zh (show Sl w4 No 9 (.slice pa _ pc) _ _ by rw [<- hw4];exact HP3.out.kn ((Mod.refl No w3).alloc _));have HNB:=zh (show w.heap.size < nb by have h1:=HM3.out.size;have h2:=lt_of_heap HR3.out;have h3:=HRB.out;omega);clear HM3 HR3 HP3 hw4 hnb;have hx1:∀ x ∈ splitC 46 (headC 45 l),x.length<=l.length:=fun x hx=>by have:=HSM.out _ x hx;omega
 have hv3:=HVL.out;have h3v:=fun a b c=>verOf_three (l:=l) (a:=a) (b:=b) (c:=c)
 generalize splitC 46 (headC 45 l)=ps at *;by_cases h3:ps.length=3
 ·obtain ⟨pA,pB,pC,rfl⟩:∃ pA pB pC,ps=[pA,pB,pC]:=by
   match ps,h3 with
   | [a,b,c],_=>exact ⟨a,b,c,rfl⟩
  have HV:=zh (h3v pA pB pC rfl);have hlA:=hx1 pA (by simp);have hlB:=hx1 pB (by simp);have hlC:=hx1 pC (by simp);clear hx1 hv3 h3v HVL;have e3:[pA,pB,pC].length=3:=rfl;rw [e3] at HP4;rw [e3];clear e3 h3;obtain ⟨pb,po,pc2,hpv,_⟩:=HP4.out.shape (by decide);cases hpv
  have ca:=HP4.out.cellN (i:=0) (by simp);have cb:=HP4.out.cellN (i:=1) (by simp);have cc:=HP4.out.cellN (i:=2) (by simp);have HCA:=zh (show w4.cell? ⟨pb,po,none⟩=some (strV pA) from ca);have HCB:=zh (show w4.cell? ⟨pb,po+1,none⟩=some (strV pB) from cb);have HCC:=zh (show w4.cell? ⟨pb,po+2,none⟩=some (strV pC) from cc);have HPN:=zh (show pb ≠ nb from fun e=>by
   subst e;obtain ⟨cur,fz,hc⟩:=HP4.out.block;rw [HN4.out] at hc;cases hc)
  have HRN:=zh (show rb ≠ nb from fun e=>by have:=HNB.out;have:=HRB.out;omega);clear ca cb cc;go_wp2_with fail
  go_loopw [25] (fun q wr=>∃ (k:Nat) (n0 n1 n2:Int),k<=3/\q=.int .i64 k/\Mod (fun p=>p=nb) w4 wr/\wr.heap[nb]? = some (.cells #[.int .i64 n0,.int .i64 n1,.int .i64 n2] 264 (0,0)) ∧
   (0 < k->numB pA=true/\n0=(decV pA:Int))/\(1 < k->numB pB=true/\n1=(decV pB:Int))/\(2 < k->numB pC=true/\n2=(decV pC:Int))) (fun q _=>3 - (intOf q).toNat)
  case atStart=>exact ⟨0,0,0,0,by omega,rfl,Mod.refl _ _,HN4.out,fun h=>absurd h (by omega),fun h=>absurd h (by omega),fun h=>absurd h (by omega)⟩
  case round =>
   obtain ⟨k,n0,n1,n2,hk,rfl,hmod,hn,hk0,hk1,hk2⟩:=hrel;have HM:=zh hmod;have HNr:=zh hn;have HRr:=zh (hmod.keep HR4.out (fun e=>HRN.out e));have HK0:=zh hk0;have HK1:=zh hk1;have HK2:=zh hk2;clear hmod hn hk0 hk1 hk2;have hk4:k=0\/k=1\/k=2\/k=3:=by omega
   clear hk;rcases hk4 with rfl | rfl | rfl | rfl
   ·have hcell:wr.cell? ⟨pb,po,none⟩=some (strV pA):=HM.out.cell HCA.out (fun e=>HPN.out e);go_wp2_with fail
    with_reducible refine (HNUM.out pA hlA _).mono ?_
    rintro e w5 ⟨⟨n,rfl,hn⟩,hm5⟩;rcases hb:numB pA with _ | _
    ·have HN:=zh (show verOf l=none by rw [HV.out,hb];simp);have hr5:=hm5.keep HRr.out (fun f=>f);have HR5:=zh hr5;have HM5:=zh ((HM4.out.then HM.out (S:=No) (fun i hi e=>by have:=HNB.out;omega)).trans hm5);obtain ⟨⟨c0,c1,c2,c3⟩,f0,f1,f2,f3⟩:=cells4 hr5;clear hm5 hn hr5;go_wp2_with fail
     have hl:=load_ver (set4 HR5.out (.int .i64 0) (.int .i64 0) (.int .i64 0) (.slice none 0 0));have HM6:=zh (HM5.out.set4 (b:=rb) (fun h=>by have:=HRB.out;omega) (.int .i64 0) (.int .i64 0) (.int .i64 0) (.slice none 0 0));exact bodyPost_ret (v:=.tuple #[verV ⟨0,0,0,[]⟩ (.slice none 0 0),.int .i64 60]) (by simp [results,results101,asAddr,hl]) rfl (fin hR ⟨.inl ⟨HN.out,rfl⟩,HM6.out⟩)
    ·obtain rfl:=hn hb;have hn5:=hm5.keep HNr.out (fun f=>f);have HN5:=zh hn5;have HM5:=zh (HM.out.trans hm5.no);have d0:=cell_ofA (i:=0) hn5 rfl;have e0:=frozen_of 0 hn5;clear hm5 hn hn5;go_wp2_with fail
     exact ⟨⟨0+1,(decV pA:Int),n1,n2,by omega,rfl,HM5.out.setCell (fun _=>rfl) _,heap_setCell HN5.out _,fun _=>⟨hb,rfl⟩,fun h=>absurd h (by omega),fun h=>absurd h (by omega)⟩,by show 3 - ((0:Int)+1).toNat < 3 - (0:Int).toNat;decide⟩
   ·have hcell:wr.cell? ⟨pb,po+1,none⟩=some (strV pB):=HM.out.cell HCB.out (fun e=>HPN.out e);go_wp2_with fail
    with_reducible refine (HNUM.out pB hlB _).mono ?_
    rintro e w5 ⟨⟨n,rfl,hn⟩,hm5⟩;rcases hb:numB pB with _ | _
    ·have HN:=zh (show verOf l=none by rw [HV.out,hb];simp);have hr5:=hm5.keep HRr.out (fun f=>f);have HR5:=zh hr5;have HM5:=zh ((HM4.out.then HM.out (S:=No) (fun i hi e=>by have:=HNB.out;omega)).trans hm5);obtain ⟨⟨c0,c1,c2,c3⟩,f0,f1,f2,f3⟩:=cells4 hr5;clear hm5 hn hr5;go_wp2_with fail
     have hl:=load_ver (set4 HR5.out (.int .i64 0) (.int .i64 0) (.int .i64 0) (.slice none 0 0));have HM6:=zh (HM5.out.set4 (b:=rb) (fun h=>by have:=HRB.out;omega) (.int .i64 0) (.int .i64 0) (.int .i64 0) (.slice none 0 0));exact bodyPost_ret (v:=.tuple #[verV ⟨0,0,0,[]⟩ (.slice none 0 0),.int .i64 60]) (by simp [results,results101,asAddr,hl]) rfl (fin hR ⟨.inl ⟨HN.out,rfl⟩,HM6.out⟩)
    ·obtain rfl:=hn hb;have hn5:=hm5.keep HNr.out (fun f=>f);have HN5:=zh hn5;have HM5:=zh (HM.out.trans hm5.no);have d0:=cell_ofA (i:=1) hn5 rfl;have e0:=frozen_of 1 hn5;clear hm5 hn hn5;go_wp2_with fail
     exact ⟨⟨1+1,n0,(decV pB:Int),n2,by omega,rfl,HM5.out.setCell (fun _=>rfl) _,heap_setCell HN5.out _,fun _=>HK0.out (by omega),fun _=>⟨hb,rfl⟩,fun h=>absurd h (by omega)⟩,by show 3 - ((1:Int)+1).toNat < 3 - (1:Int).toNat;decide⟩
   ·have hcell:wr.cell? ⟨pb,po+2,none⟩=some (strV pC):=HM.out.cell HCC.out (fun e=>HPN.out e);go_wp2_with fail
    with_reducible refine (HNUM.out pC hlC _).mono ?_
    rintro e w5 ⟨⟨n,rfl,hn⟩,hm5⟩;rcases hb:numB pC with _ | _
    ·have HN:=zh (show verOf l=none by rw [HV.out,hb];simp);have hr5:=hm5.keep HRr.out (fun f=>f);have HR5:=zh hr5;have HM5:=zh ((HM4.out.then HM.out (S:=No) (fun i hi e=>by have:=HNB.out;omega)).trans hm5);obtain ⟨⟨c0,c1,c2,c3⟩,f0,f1,f2,f3⟩:=cells4 hr5;clear hm5 hn hr5;go_wp2_with fail
     have hl:=load_ver (set4 HR5.out (.int .i64 0) (.int .i64 0) (.int .i64 0) (.slice none 0 0));have HM6:=zh (HM5.out.set4 (b:=rb) (fun h=>by have:=HRB.out;omega) (.int .i64 0) (.int .i64 0) (.int .i64 0) (.slice none 0 0));exact bodyPost_ret (v:=.tuple #[verV ⟨0,0,0,[]⟩ (.slice none 0 0),.int .i64 60]) (by simp [results,results101,asAddr,hl]) rfl (fin hR ⟨.inl ⟨HN.out,rfl⟩,HM6.out⟩)
    ·obtain rfl:=hn hb;have hn5:=hm5.keep HNr.out (fun f=>f);have HN5:=zh hn5;have HM5:=zh (HM.out.trans hm5.no);have d0:=cell_ofA (i:=2) hn5 rfl;have e0:=frozen_of 2 hn5;clear hm5 hn hn5;go_wp2_with fail
     exact ⟨⟨2+1,n0,n1,(decV pC:Int),by omega,rfl,HM5.out.setCell (fun _=>rfl) _,heap_setCell HN5.out _,fun _=>HK0.out (by omega),fun _=>HK1.out (by omega),fun _=>⟨hb,rfl⟩⟩,by show 3 - ((2:Int)+1).toNat < 3 - (2:Int).toNat;decide⟩
   ·obtain ⟨hA,rfl⟩:=HK0.out (by omega);obtain ⟨hB,rfl⟩:=HK1.out (by omega);obtain ⟨hC,rfl⟩:=HK2.out (by omega);have HV2:=zh (show verOf l=if preOk l=true then some ⟨decV pA,decV pB,decV pC,preOf l⟩ else none by rw [HV.out,hA,hB,hC];rfl);have HMr:=zh (HM4.out.then HM.out (S:=No) (fun i hi e=>by have:=HNB.out;omega));have nf0:=cell_ofA (i:=0) HNr.out rfl;have nf1:=cell_ofA (i:=1) HNr.out rfl;have nf2:=cell_ofA (i:=2) HNr.out rfl;clear HM HK0 HK1 HK2 HV hA hB hC;generalize (decV pA:Int)=a at *;generalize (decV pB:Int)=b at *;generalize (decV pC:Int)=c at *;go_upto_region 15 with fail
    obtain ⟨vb,hvb⟩:∃ g,g=wr.heap.size:=⟨_,rfl⟩
    rw [<- hvb];generalize hw6:World.alloc wr _=w6;have HM6:=zh (show Mod No w w6 by rw [<- hw6];exact HMr.out.alloc _);have HR6:=zh (show w6.heap[rb]? = some (.cells #[.int .i64 0,.int .i64 0,.int .i64 0,.slice none 0 0] 40 (0,0)) by rw [<- hw6];exact heap_alloc_old _ HRr.out);have HV6:=zh (show w6.heap[vb]? = some (.cells #[.int .i64 a,.int .i64 b,.int .i64 c,.slice none 0 0] 40 (0,0)) by rw [<- hw6,hvb];exact heap_alloc_new wr _);have HVB:=zh (show rb < vb by rw [hvb];exact lt_of_heap HRr.out);clear hw6 hvb nf0 nf1 nf2 HMr HRr HNr HM4 HR4 HN4 HP4 HCA HCB HCC HPN HRN;by_cases h45:45 ∈ l
    ·rw [decide_eq_true h45];have HPO:=zh (show preOf l=splitC 46 (tailC 45 l) from if_pos h45);have HPK:=zh (show preOk l=(decide ((preOf l).length<=5) && (preOf l).all markB) by unfold preOk;rw [decide_eq_false (fun h=>h h45),Bool.false_or]);have hps:∀ x ∈ preOf l,x.length<=l.length:=fun x hx=>by
      rw [HPO.out] at hx;have:=HSM.out _ x hx;omega
     have hpl:(preOf l).length<=1000001:=by
      rw [HPO.out];have:=HSL.out (tailC 45 l);omega
     go_wp2_with fail
     with_reducible refine (HSP.out _ ht _ (HG.out.stay HM6.out (fun f=>f))).mono ?_
     rintro e w7 ⟨pv,rfl,hown,hm7⟩;rw [<- HPO.out] at hown;have HP7:=zh (Sl.of_own (X:=Old w) hown (fun k hk h=>by have h2:k < w.heap.size:=h;have:=HM6.out.size;omega));obtain ⟨qa,qc,rfl⟩:=HP7.out.len;have HM7:=zh (HM6.out.trans hm7);have HR7:=zh (hm7.keep HR6.out (fun f=>f));have HV7:=zh (hm7.keep HV6.out (fun f=>f));clear hm7 hown HPO;generalize preOf l=pr at *;obtain ⟨⟨c0,c1,c2,c3⟩,f0,f1,f2,f3⟩:=cells4 HV7.out;go_upto_region 18 with fail
     have HV8:=zh (show (w7.setCell ⟨vb,3,none⟩ (.slice qa pr.length qc)).heap[vb]? = some (.cells #[.int .i64 a,.int .i64 b,.int .i64 c,.slice qa pr.length qc] 40 (0,0)) by rw [heap_setCell HV7.out];rfl);have HM8:=zh (show Mod No w (w7.setCell ⟨vb,3,none⟩ (.slice qa pr.length qc)) from HM7.out.setCell (fun h=>by have:=HRB.out;have:=HVB.out;dsimp only at h;omega) _);have HR8:=zh (show (w7.setCell ⟨vb,3,none⟩ (.slice qa pr.length qc)).heap[rb]? = some (.cells #[.int .i64 0,.int .i64 0,.int .i64 0,.slice none 0 0] 40 (0,0)) by rw [heap_setCell_ne _ (by have:=HVB.out;dsimp only;omega)];exact HR7.out);have HP8:=zh (show Sl (w7.setCell ⟨vb,3,none⟩ (.slice qa pr.length qc)) (Old w) 9 (.slice qa pr.length qc) pr.length (strs pr) from HP7.out.keep (S:=fun p=>p=vb) (Mod.cell1 w7 vb 3 _) (fun k cur fz hk _ hc=>by subst hk;rw [HV7.out] at hc;cases hc));generalize w7.setCell ⟨vb,3,none⟩ (.slice qa pr.length qc)=w8 at *;clear c0 c1 c2 c3 f0 f1 f2 f3 HR7 HV7 HM7 HP7 HV6 HR6 HM6;obtain ⟨⟨c0,c1,c2,c3⟩,f0,f1,f2,f3⟩:=cells4 HV8.out;by_cases h5:(5:Int) < (pr.length:Int)
     ·have HN:=zh (show verOf l=none by rw [HV2.out,HPK.out,decide_eq_false (by omega:¬ pr.length<=5)];rfl);obtain ⟨⟨d0,d1,d2,d3⟩,g0,g1,g2,g3⟩:=cells4 HR8.out;go_wp2_with fail
      have hl:=load_ver (set4 HR8.out (.int .i64 0) (.int .i64 0) (.int .i64 0) (.slice none 0 0));have HM9:=zh (HM8.out.set4 (b:=rb) (fun h=>by have:=HRB.out;omega) (.int .i64 0) (.int .i64 0) (.int .i64 0) (.slice none 0 0));exact bodyPost_ret (v:=.tuple #[verV ⟨0,0,0,[]⟩ (.slice none 0 0),.int .i64 60]) (by simp [results,results101,asAddr,hl]) rfl (fin hR ⟨.inl ⟨HN.out,rfl⟩,HM9.out⟩)
     ·have hcf:=HCF.out pr hps (by omega) _ _ (HP8.out.shrink (fun _ _ f=>f.elim));have HCF2:=zh hcf;clear hcf;go_wp2_with fail
      with_reducible refine HCF2.out.mono ?_
      rintro e w9 ⟨rfl,hm9⟩;have HM9:=zh (HM8.out.trans hm9);have HR9:=zh (hm9.keep HR8.out (fun f=>f));have HV9:=zh (hm9.keep HV8.out (fun f=>f));have HP9:=zh (HP8.out.kn hm9);have HAN:=zh (show (pr.any fun x=>!markB x) = !(pr.all markB) by rw [List.not_all_eq_any_not]);clear hm9 c0 c1 c2 c3 f0 f1 f2 f3 HCF2;obtain ⟨⟨d0,d1,d2,d3⟩,g0,g1,g2,g3⟩:=cells4 HR9.out;rcases hb:(pr.any fun x=>!markB x) with _ | _
      ·have HN:=zh (show verOf l=some ⟨a,b,c,pr⟩ by
        have hq:pr.all markB=true:=by rw [hb] at HAN;simpa using HAN.out.symm
        rw [HV2.out,HPK.out,decide_eq_true (by omega:pr.length<=5),hq];rfl)
       have hl0:=load_ver HV9.out;obtain ⟨⟨c0,c1,c2,c3⟩,-⟩:=cells4 HV9.out;go_wp2_with fail
       have hl:=load_ver (set4 HR9.out (.int .i64 a) (.int .i64 b) (.int .i64 c) (.slice qa pr.length qc));have HM10:=zh (HM9.out.set4 (b:=rb) (fun h=>by have:=HRB.out;omega) (.int .i64 a) (.int .i64 b) (.int .i64 c) (.slice qa pr.length qc));have HP10:=zh (HP9.out.keep (Mod.set4 (S:=fun p=>p=rb) (b:=rb) (Mod.refl _ w9) (fun _=>rfl) (.int .i64 a) (.int .i64 b) (.int .i64 c) (.slice qa pr.length qc)) (fun k cur fz hk _ hc=>by subst hk;rw [HR9.out] at hc;cases hc));exact bodyPost_ret (v:=.tuple #[verV ⟨a,b,c,pr⟩ (.slice qa pr.length qc),.int .i64 0]) (by simp [results,results101,asAddr,hl]) rfl (fin hR ⟨.inr ⟨_,_,HN.out,rfl,HP10.out⟩,HM10.out⟩)
      ·have HN:=zh (show verOf l=none by
        have hq:pr.all markB=false:=by rw [hb] at HAN;simpa using HAN.out.symm
        rw [HV2.out,HPK.out,hq,Bool.and_false];rfl)
       go_wp2_with fail
       have hl:=load_ver (set4 HR9.out (.int .i64 0) (.int .i64 0) (.int .i64 0) (.slice none 0 0));have HM10:=zh (HM9.out.set4 (b:=rb) (fun h=>by have:=HRB.out;omega) (.int .i64 0) (.int .i64 0) (.int .i64 0) (.slice none 0 0));exact bodyPost_ret (v:=.tuple #[verV ⟨0,0,0,[]⟩ (.slice none 0 0),.int .i64 60]) (by simp [results,results101,asAddr,hl]) rfl (fin hR ⟨.inl ⟨HN.out,rfl⟩,HM10.out⟩)
    ·rw [decide_eq_false h45];have HN:=zh (show verOf l=some ⟨a,b,c,[]⟩ by
      rw [HV2.out,if_pos (by unfold preOk;rw [decide_eq_true h45];rfl),show preOf l=[] from if_neg h45])
     obtain ⟨⟨d0,d1,d2,d3⟩,g0,g1,g2,g3⟩:=cells4 HR6.out;obtain ⟨⟨c0,c1,c2,c3⟩,-⟩:=cells4 HV6.out;go_wp2_with fail
     have hl:=load_ver (set4 HR6.out (.int .i64 a) (.int .i64 b) (.int .i64 c) (.slice none 0 0));have HM9:=zh (HM6.out.set4 (b:=rb) (fun h=>by have:=HRB.out;omega) (.int .i64 a) (.int .i64 b) (.int .i64 c) (.slice none 0 0));exact bodyPost_ret (v:=.tuple #[verV ⟨a,b,c,[]⟩ (.slice none 0 0),.int .i64 0]) (by simp [results,results101,asAddr,hl]) rfl (fin hR ⟨.inr ⟨_,_,HN.out,rfl,.inl ⟨rfl,rfl,rfl⟩⟩,HM9.out⟩)
 ·have h3i:((ps.length:Int) != 3)=true:=by simp;omega
  have HN:=zh (hv3 h3);clear hx1 hv3 h3v;obtain ⟨⟨c0,c1,c2,c3⟩,f0,f1,f2,f3⟩:=cells4 HR4.out;go_wp2_with fail
  have hl:=load_ver (set4 HR4.out (.int .i64 0) (.int .i64 0) (.int .i64 0) (.slice none 0 0));have HM5:=zh (HM4.out.set4 (b:=rb) (fun h=>by have:=HRB.out;omega) (.int .i64 0) (.int .i64 0) (.int .i64 0) (.slice none 0 0));exact bodyPost_ret (v:=.tuple #[verV ⟨0,0,0,[]⟩ (.slice none 0 0),.int .i64 60]) (by simp [results,results101,asAddr,hl]) rfl (fin hR ⟨.inl ⟨HN.out,rfl⟩,HM5.out⟩)
theorem wrap_nat {k:Nat} (h:k<=1000000000):wrap64 (k:Int)=(k:Int):=by
 unfold wrap64;omega
theorem lines_cases (l:List UInt8):∃ k,(splitC 10 l).length=k+1/\∃ last,(splitC 10 l)[k]? = some last ∧
  (last=[]->k=(linesL l).length/\strs (linesL l)=((strs (splitC 10 l)).drop 0).take k)/\(last ≠ []->(linesL l).length=k+1/\strs (linesL l)=strs (splitC 10 l)):=by
 have hne:=splitC_ne 10 l;unfold linesL;generalize splitC 10 l=ps at *;have e:=List.dropLast_concat_getLast hne;obtain ⟨d,z,rfl⟩:∃ d z,ps=d++[z]:=⟨_,_,e.symm⟩
 refine ⟨d.length,by simp,z,by simp,fun hz=>?_,fun hz=>?_⟩
 ·subst hz;rw [if_pos (by simp)];refine ⟨by simp,?_⟩
  rw [List.dropLast_concat,List.drop_zero];simp [strs]
 ·rw [if_neg (by simpa using hz)];exact ⟨by simp,rfl⟩
theorem lines_any (l:List UInt8) (hl:l.length<=1000000) (w:World) (hgl:Gl w) :
  Calls prog 104 #[strV l] w fun e w'=>∃ v,e=.returned v/\Sl w' No 9 v (linesL l).length (strs (linesL l))/\Mod No w w':=by
 refine calls_hide fun R hR=>?_
 have HSP:=zh (show Calls prog 112 #[strV l,.string ⟨#[10]⟩] w fun e w'=>∃ v,e=.returned v/\w'.ownsRow w.heap.size 9 1 v (splitC 10 l).length (strs (splitC 10 l))/\Mod No w w' from split_any 10 l hl w hgl);have HL:=zh (lines_cases l);clear hgl;unfold strV at *;generalize (⟨l.toArray⟩:ByteArray)=Z at *;obtain ⟨k,hk,last,hlast,h1,h2⟩:=HL.out;have hkl:k<=1000000:=by
  have:=splitC_length_le 10 l;omega
 rw [hk] at HSP;have hcl:(strs (splitC 10 l))[k]? = some (.string ⟨last.toArray⟩):=by
  rw [strs,List.getElem?_map,hlast];rfl
 have H1:=zh h1;have H2:=zh h2;have hsl:(strs (splitC 10 l)).length=k+1:=by rw [strs_length,hk]
 clear HL h1 h2 hlast hk;generalize strs (splitC 10 l)=cs at *;go_enter func104,ntmps104
 go_wp2_with fail
 with_reducible refine HSP.out.mono ?_
 rintro e w1 ⟨v,rfl,hown,hm⟩;have HS:=zh (Sl.of_own (X:=No) hown (fun _ _ f=>f));obtain ⟨gb,go,gc,rfl,hgc,hgm,_⟩:=HS.out.shape (Nat.succ_pos k);have hcell:=Sl.cell HS.out (i:=k) (by omega);rw [hcl] at hcell;dsimp only at hcell;have HM:=zh hm;have hk0:(0:Int)<=(k:Int):=Int.natCast_nonneg _;have hgc':(k:Int)<=(gc:Int):=by omega
 have hwk:=wrap_nat (k:=k) (by omega);clear hm hown HSP;have hT:=str_list last;by_cases hn:last=[]
 ·subst hn;have HP:=zh (Sl.part HS.out hsl 0 k gc (by omega) (by omega) hgm);have H3:=zh (H1.out rfl);clear H1 H2;go_wp2_with fail
  refine fin hR ⟨_,rfl,?_,HM.out⟩
  rw [<- H3.out.1,H3.out.2];exact HP.out
 ·have hne:(⟨last.toArray⟩:ByteArray).toList.isEmpty=false:=by rw [hT];simpa using hn
  have hne2:last.isEmpty=false:=by simpa using hn
  have H3:=zh (H2.out hn);clear H1 H2;go_wp2_with fail
  refine fin hR ⟨_,rfl,?_,HM.out⟩
  rw [H3.out.1,H3.out.2];exact HS.out
theorem silent_any (l:List UInt8) (w:World):Calls prog 105 #[strV l] w fun e w'=>e=.returned (.bool (silentB l))/\w'=w:=by
 refine calls_hide fun R hR=>?_
 have HX:=zh (run_at l);have hT:=str_list l;unfold strV at *;cases l with
 | nil =>
  clear HX;go_enter func105,ntmps105
  go_wp2_with fail
  exact fin hR ⟨rfl,rfl⟩
 | cons c r =>
  have hx0:∀ W:World,(Instr.index 9 (.string ⟨(c :: r).toArray⟩) (.int .i64 0)).run prog W=.ok (.int .u8 (c.toNat:Int)) W:=fun W=>HX.out 0 (by simp) W
  have he:(⟨(c :: r).toArray⟩:ByteArray).toList.isEmpty=false:=by rw [hT];rfl
  generalize (⟨(c :: r).toArray⟩:ByteArray)=Z at *;clear HX;go_enter func105,ntmps105
  by_cases hc:c=35
  ·subst hc;have hB:=zh (show silentB (35 :: r)=true from rfl);go_wp2_with fail
   exact fin hR ⟨(by rw [hB.out];try rfl),rfl⟩
  ·have hB:=zh (show silentB (c :: r)=false by unfold silentB;simp [hc]);have hn:((c.toNat:Int) == 35)=false:=by
    have:c.toNat ≠ 35:=fun e=>hc (by rw [<- UInt8.toNat_inj];exact e)
    simp;omega
   generalize (c.toNat:Int)=z at *;go_wp2_with fail
   exact fin hR ⟨(by rw [hB.out];try rfl),rfl⟩
theorem reflines_any (l:List UInt8) (hl:l.length<=1000000) (w:World) :
  Calls prog 37 #[strV l] w fun e w'=>∃ v,e=.returned v/\Sl w' No 9 v (linesL l).length (strs (linesL l))/\Mod No w w':=by
 refine calls_hide fun R hR=>?_
 have HSP:=zh (show Calls prog 34 #[strV l,.int .u8 10] w fun e w'=>∃ v,e=.returned v/\w'.ownsRow w.heap.size 9 1 v (splitC 10 l).length (strs (splitC 10 l))/\Mod No w w' from refsplit_any 10 l hl w);have HL:=zh (lines_cases l)
 
 unfold strV at *;generalize (⟨l.toArray⟩:ByteArray)=Z at *;obtain ⟨k,hk,last,hlast,h1,h2⟩:=HL.out;have hkl:k<=1000000:=by
  have:=splitC_length_le 10 l;omega
 rw [hk] at HSP;have hcl:(strs (splitC 10 l))[k]? = some (.string ⟨last.toArray⟩):=by
  rw [strs,List.getElem?_map,hlast];rfl
 have H1:=zh h1;have H2:=zh h2;have hsl:(strs (splitC 10 l)).length=k+1:=by rw [strs_length,hk]
 clear HL h1 h2 hlast hk;generalize strs (splitC 10 l)=cs at *;go_enter func37,ntmps37
 go_wp2_with fail
 with_reducible refine HSP.out.mono ?_
 rintro e w1 ⟨v,rfl,hown,hm⟩;have HS:=zh (Sl.of_own (X:=No) hown (fun _ _ f=>f));obtain ⟨gb,go,gc,rfl,hgc,hgm,_⟩:=HS.out.shape (Nat.succ_pos k);have hcell:=Sl.cell HS.out (i:=k) (by omega);rw [hcl] at hcell;dsimp only at hcell;have HM:=zh hm;have hk0:(0:Int)<=(k:Int):=Int.natCast_nonneg _;have hgc':(k:Int)<=(gc:Int):=by omega
 have hwk:=wrap_nat (k:=k) (by omega);clear hm hown HSP;have hT:=str_list last;by_cases hn:last=[]
 ·subst hn;have HP:=zh (Sl.part HS.out hsl 0 k gc (by omega) (by omega) hgm);have H3:=zh (H1.out rfl);clear H1 H2;go_wp2_with fail
  refine fin hR ⟨_,rfl,?_,HM.out⟩
  rw [<- H3.out.1,H3.out.2];exact HP.out
 ·have hne:(⟨last.toArray⟩:ByteArray).toList.isEmpty=false:=by rw [hT];simpa using hn
  have hne2:last.isEmpty=false:=by simpa using hn
  have H3:=zh (H2.out hn);clear H1 H2;go_wp2_with fail
  refine fin hR ⟨_,rfl,?_,HM.out⟩
  rw [H3.out.1,H3.out.2];exact HS.out
theorem begins_any (l p:List UInt8) (w:World):Calls prog 38 #[strV l,strV p] w fun e w'=>e=.returned (.bool (decide (l.take p.length=p)))/\w'=w:=by
 refine calls_hide fun R hR=>?_
 have HEX:=zh (str_to l p.length);have HZ:=zh (str_len3 l);have HP:=zh (str_len3 p);have hTP:=str_list p;have hTT:=str_list (l.take p.length);unfold strV at *;generalize (⟨l.toArray⟩:ByteArray)=Z at *;generalize (⟨p.toArray⟩:ByteArray)=Q at *;have hZs:(Z.size:Int)=(l.length:Int):=by rw [HZ.out]
 have hQs:(Q.size:Int)=(p.length:Int):=by rw [HP.out]
 go_enter func38,ntmps38
 by_cases h:p.length<=l.length
 ·have h1:(p.length:Int)<=(l.length:Int):=by omega
  have h0:(0:Int)<=(p.length:Int):=Int.natCast_nonneg _;have hext:=HEX.out;go_wp2_with fail
  refine fin hR ⟨bool_ret ?_,rfl⟩
  first
   | rfl
   |(by_cases hh:l.take p.length=p
     ·rw [decide_eq_true hh,hh];simp
     ·rw [decide_eq_false hh];simpa using hh)
 ·have h1:¬ (p.length:Int)<=(l.length:Int):=by omega
  have HF:=zh (show decide (l.take p.length=p)=false from decide_eq_false fun e=>h (by
   have:=congrArg List.length e;rw [List.length_take] at this;omega))
  go_wp2_with fail
  refine fin hR ⟨bool_ret ?_,rfl⟩
  rw [HF.out]
theorem blank_any (x:Nat) (w:World):Calls prog 175 #[.int .i32 (x:Int)] w fun e w'=>e=.returned (.bool (x == 32))/\Mod No w w':=by
 refine calls_hide fun R hR=>?_
 have h0:(0:Int)<=(x:Int):=Int.natCast_nonneg _;go_enter func175,ntmps175
 by_cases hx:x=32
 ·subst hx;go_wp2_with fail
  exact fin hR ⟨rfl,Mod.refl _ _⟩
 ·have hx2:((x:Int) == 32)=false:=by simp;omega
  have hx3:(x == 32)=false:=by simpa using hx
  go_wp2_with fail
  exact fin hR ⟨(by rw [hx3];try rfl),Mod.refl _ _⟩
theorem fields_any (l:List UInt8) (hl:l.length<=1000000) (w:World):Calls prog 174 #[strV l,.func (.func 175) #[] #[]] w fun e w' =>
  ∃ v,e=.returned v/\w'.ownsRow w.heap.size 9 1 v (wordsL l).length (strs (wordsL l))/\Mod No w w':=by
 have hp:PredGrows prog 175 #[] (fun r=>r == 32) w:=fun W x _ _=>(blank_any x W).mono fun e w' ⟨he,hm⟩=>⟨he,hm.below⟩
 have hw:=fields_words l;refine (Tryz.strings_FieldsFunc_grows 175 #[] (fun _ _=>rfl) (fun r=>r == 32) ⟨l.toArray⟩ w (by rw [str_len3];omega) hp).mono fun e w' ⟨A,he,hA,ho,hb⟩=>?_
 have e1:(Lib.goFieldsP (fun r=>r == 32) ⟨l.toArray⟩).map Value.string=strs (wordsL l):=by
  rw [hw,List.map_map];rfl
 have e2:(Lib.goFieldsP (fun r=>r == 32) ⟨l.toArray⟩).length=(wordsL l).length:=by rw [hw,List.length_map]
 rw [e1,e2] at ho;exact ⟨_,he.trans (by rw [e2]),ho,Mod.of_below hb⟩
theorem trim_any (l:List UInt8) (hl:l.length<=1000000) (w:World):Calls prog 172 #[strV l,.string ⟨#[32]⟩] w fun e w'=>e=.returned (strV (Lib.trimB l 32))/\Mod No w w' :=
 (Tryz.strings_Trim_one ⟨l.toArray⟩ 32 (by decide) w (by rw [str_len3];omega)).mono fun e w' ⟨he,hw⟩=>⟨he,by
  rcases hw with rfl | rfl
  ·exact Mod.refl _ _
  ·exact (Mod.refl No w).drew⟩
end Go.Proofs.YticfcmdjplmaeaaGreatDoor
