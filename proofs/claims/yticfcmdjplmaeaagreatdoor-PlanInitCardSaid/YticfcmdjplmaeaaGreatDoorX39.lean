/-
  Layers 0 to 14: helps of the laws of indexes. No statement is proved here; no condition.
-/
import Derived.Test.YticfcmdjplmaeaaGreatDoorX34
import Derived.Test.YticfcmdjplmaeaaGreatDoorX19
import Derived.Test.YticfcmdjplmaeaaGreatDoorX38
import Derived.Test.YticfcmdjplmaeaaGreatDoorX01
import Derived.Test.YticfcmdjplmaeaaGreatDoorX28
import Derived.Test.YticfcmdjplmaeaaGreatDoorX36
import Derived.Test.YticfcmdjplmaeaaGreatDoorX37
import Derived.Test.YticfcmdjplmaeaaGreatDoorX20
set_option maxRecDepth 100000
set_option maxHeartbeats 64000000
namespace Go.Proofs.YticfcmdjplmaeaaGreatDoor
open _root_.Go.Proofs.Tryz
open Go.RowKit Go.Sort
theorem planof_lean (man lock:List UInt8) (hman:man.length<=1000000) (_:lock.length<=1000000) (ka:Option Addr) (kn kc:Nat) (ta:Option Addr) (tn tc:Nat) (rv:Value) (xs:List RwX) (nx:Nat->List NdX)
  (kd:Int) (name text:List UInt8) (hn:name.length<=400000) (ht:text.length<=400000) (w:World) (hr:RowsIn w rv xs nx) (hgl:Gl w) (herr:ErrTy w) (htab:TabOk w) (hkd:kd=0\/kd=1) (hlk:kd ≠ 0->lock=lockHead/\(linesL man).length<=2) :
  Calls prog 30 #[.agg #[strV man,strV lock,.slice ka kn kc,.slice ta tn tc],rv,.agg #[.int .i64 kd,strV name,strV text]] w fun e w'=>PlanRes w' (planL (xs.map RwX.r) man lock kd name text) e/\Mod No w w':=by
 refine calls_hide fun R hR=>?_
 have HBG:=zh (fun (k:Int) (W:World) (hw:Mod No w W)=>begin_any k name text (by omega) (by omega) W (hgl.stay hw (fun f=>f)) (htab.keep hw (fun f=>f)));have HMP:=zh (fun (h0:kd ≠ 0) (W:World) (hw:Mod No w W)=>mparse_lean man hman (hlk h0).2 W (hgl.stay hw (fun f=>f)));have HKD:=zh hkd;have HLK:=zh (show kd ≠ 0->lock ≠ [] from fun h e=>by have:=(hlk h).1;rw [e] at this;cases this);have HLP:=zh (fun (h0:kd ≠ 0) (W:World) (hw:Mod No w W)=>show Calls prog 67 #[strV lock] W fun e w'=>LkRes w' lock e/\Mod No W w' from by rw [(hlk h0).1];exact lparse_lean W (hgl.stay hw (fun f=>f)));have HSV:=zh (fun (m:Mf) (hg:MfGd m) (mv:Value) (W:World) (hw:Mod No w W) (hat:MftAt W mv m)=>solved_any m hg mv rv xs nx W hat (hr.keep hw) (herr.keep hw (fun f=>f)) (htab.keep hw (fun f=>f)));have HAD:=zh (fun (h0:kd ≠ 0) (m:Mf) (hmf:mfOf man=some m) (mv:Value) (k:Int) (W:World) (hw:Mod No w W) (hat:MftAt W mv m)=>padd_lean m (mfOf_two (hlk h0).2 hmf) mv k name text hn ht W hat (hgl.stay hw (fun f=>f)));have HSPN:=zh (fun (s:Spn) (h:spanL text=some s)=>spanL_ok (show text.length<=999999 by omega) h);have HLEN:=zh (show name.length+text.length<=1000000 by omega);have HEM:=zh (show man=[]->man.isEmpty=true from fun h=>by rw [h];rfl);have HEL:=zh (show lock=[]->lock.isEmpty=true from fun h=>by rw [h];rfl);have hT1:=str_list man;have hT2:=str_list lock;clear hr hgl herr htab hn ht hman hkd hlk;generalize xs.map RwX.r=xl at *;obtain ⟨RES,hRES⟩:∃ r,r=planL xl man lock kd name text:=⟨_,rfl⟩
 rw [<- hRES] at hR;have HRES:=zh hRES;clear hRES;unfold strV at *;obtain ⟨M1,hM1⟩:∃ Z:ByteArray,Z=⟨man.toArray⟩:=⟨_,rfl⟩
 obtain ⟨L1,hL1⟩:∃ Z:ByteArray,Z=⟨lock.toArray⟩:=⟨_,rfl⟩
 rw [<- hM1] at HMP hT1 ⊢;rw [<- hL1] at HLP hT2 ⊢;have HMS:=zh (show strV man=.string M1 by rw [hM1]);have HLS:=zh (show strV lock=.string L1 by rw [hL1]);clear hM1 hL1;obtain ⟨N1,hN1⟩:∃ Z:ByteArray,Z=⟨name.toArray⟩:=⟨_,rfl⟩
 obtain ⟨T1,hT1'⟩:∃ Z:ByteArray,Z=⟨text.toArray⟩:=⟨_,rfl⟩
 rw [<- hN1,<- hT1'] at HBG HAD ⊢;have HN1:=zh hN1;clear hN1 hT1';go_enter func30,ntmps30
 go_upto_region 1 with fail
 obtain ⟨gb,hgb⟩:∃ g,g=w.heap.size:=⟨_,rfl⟩
 rw [<- hgb];generalize hw1:World.alloc _ _=w1;have hs:∀ (W:World) (o:Obj) (k:Nat),W.heap.size=k->(W.alloc o).heap.size=k+1:=fun W o k h=>by rw [<- h];exact Array.size_push _
 have hst:w1.heap[gb]? = some (.cells #[.string M1,.string L1,.slice ka kn kc,.slice ta tn tc] 35 (0,0)):=by rw [<- hw1,hgb];exact heap_alloc_old _ (heap_alloc_old _ (heap_alloc_new w _))
 have hgc:w1.heap[gb+1]? = some (.cells #[.int .i64 kd,.string N1,.string T1] 24 (0,0)):=by
  rw [<- hw1];refine heap_alloc_old _ ?_;have h1:=heap_alloc_new (w.alloc (.cells #[.string M1,.string L1,.slice ka kn kc,.slice ta tn tc] 35)) (.cells #[.int .i64 kd,.string N1,.string T1] 24);rw [hs _ _ gb hgb.symm] at h1;exact h1
 have hrs:w1.heap[gb+2]? = some (.cells #[.string ⟨#[]⟩,.string ⟨#[]⟩,.slice none 0 0,.bool false,.bool false,.bool false] 27 (0,0)):=by
  rw [<- hw1];have h2:=heap_alloc_new ((w.alloc (.cells #[.string M1,.string L1,.slice ka kn kc,.slice ta tn tc] 35)).alloc (.cells #[.int .i64 kd,.string N1,.string T1] 24)) (.cells #[.string ⟨#[]⟩,.string ⟨#[]⟩,.slice none 0 0,.bool false,.bool false,.bool false] 27);rw [hs _ _ (gb+1) (hs _ _ gb hgb.symm)] at h2;exact h2
 have hm1:Mod No w w1:=by rw [<- hw1];exact (((Mod.refl No w).alloc _).alloc _).alloc _
 obtain ⟨g2,hg2⟩:∃ g,g=gb+1:=⟨_,rfl⟩
 obtain ⟨g3,hg3⟩:∃ g,g=g2+1:=⟨_,rfl⟩
 rw [<- hg2] at hgc;rw [show gb+2=g3 by omega] at hrs;rw [<- hg2,<- hg3];have HST:=zh hst;have HGC:=zh hgc;have HRS:=zh hrs;have HM1:=zh hm1;have HNB:=zh (show w.heap.size<=gb/\w.heap.size<=g2/\w.heap.size<=g3 from ⟨by omega,by omega,by omega⟩);have a0:=cell_ofA hst (i:=0) (v:=.string M1) rfl;have k0:=cell_ofA hgc (i:=0) (v:=.int .i64 kd) rfl;clear hw1 hst hgc hrs hm1 hg2 hg3 hgb hs;by_cases hk0:kd=0
 ·subst hk0;by_cases hm:man=[]
  ·have HPL:=zh (show RES=beginL name text by rw [HRES.out];unfold planL;rw [if_pos rfl,if_pos hm]);have hm2:=HEM.out hm;have HGRG:=zh (show w1.rangeAt g2 0 [.int .i64 0,.string N1,.string T1] from fun u x hx=>by rw [Nat.zero_add];exact cell_ofA HGC.out (by rw [List.getElem?_toArray];exact hx));have HBW:=zh (HBG.out 0 w1 HM1.out);rw [<- HPL.out] at HBW;clear HBG HMP HLP HSV HAD hm;go_wp2_with (refine wpList_load_mid rfl 24 _ rfl g2 0 rfl [.int .i64 0,.string N1,.string T1] _ HGRG.out underlying24 rfl (by kernel_rfl) ?_)
   with_reducible refine HBW.out.mono ?_
   rintro e w2 ⟨hres,hm2⟩;obtain ⟨pa,pb,pc,pc1,pc2,d1,d2,d3,er,rfl,hkeep⟩:=hres.open_;have HRS2:=zh (hm2.keep HRS.out (fun f=>f));have HM2:=zh (HM1.out.trans hm2);have HKP:=zh hkeep;clear hres hm2 hkeep HBW;go_wp2_with (refine wpList_store_row rfl 27 _ _ rfl g3 #[.string pa,.string pb,.slice pc pc1 pc2,.bool d1,.bool d2,.bool d3] rfl rfl 27 _ HRS2.out (by kernel_rfl) (by rfl) (by kernel_rfl) ?_)
   have hg8:=setRow_heap _ g3 _ #[.string pa,.string pb,.slice pc pc1 pc2,.bool d1,.bool d2,.bool d3] _ _ HRS2.out;have hl9:=load_plan hg8;have HM8:=zh (mod_row HM2.out HNB.out.2.2 #[.string pa,.string pb,.slice pc pc1 pc2,.bool d1,.bool d2,.bool d3]);exact bodyPost_ret (v:=.tuple #[.agg #[.string pa,.string pb,.slice pc pc1 pc2,.bool d1,.bool d2,.bool d3],er]) (by simp [results,results30,asAddr,hl9]) rfl (fin hR ⟨HKP.out _ (fun _ _=>plan_kept HRS2.out _),HM8.out⟩)
  ·have HPL:=zh (show ∀ W,PlanRes W RES (.returned (.tuple #[.agg #[.string ⟨#[]⟩,.string ⟨#[]⟩,.slice none 0 0,.bool false,.bool false,.bool false],.iface 36 (.int .i64 81)]) ) from fun W=>by
    rw [HRES.out];unfold planL;rw [if_pos rfl,if_neg hm];rfl)
   have hm2:man.isEmpty=false:=by simpa using hm
   go_wp2_with (refine wpList_store_row rfl 27 _ _ rfl g3 #[.string ⟨#[]⟩,.string ⟨#[]⟩,.slice none 0 0,.bool false,.bool false,.bool false] rfl rfl 27 _ HRS.out (by kernel_rfl) (by rfl) (by kernel_rfl) ?_)
   have hg8:=setRow_heap _ g3 _ #[.string ⟨#[]⟩,.string ⟨#[]⟩,.slice none 0 0,.bool false,.bool false,.bool false] _ _ HRS.out;have hl9:=load_plan hg8;have HM8:=zh (mod_row HM1.out HNB.out.2.2 #[.string ⟨#[]⟩,.string ⟨#[]⟩,.slice none 0 0,.bool false,.bool false,.bool false]);exact bodyPost_ret (v:=.tuple #[.agg #[.string ⟨#[]⟩,.string ⟨#[]⟩,.slice none 0 0,.bool false,.bool false,.bool false],.iface 36 (.int .i64 81)]) (by simp [results,results30,asAddr,hl9]) rfl (fin hR ⟨HPL.out _,HM8.out⟩)
 ·have hk0':((kd:Int) == 0)=false:=by simpa using hk0
  by_cases hm:man=[]
  ·have HPL:=zh (show ∀ W,PlanRes W RES (.returned (.tuple #[.agg #[.string ⟨#[]⟩,.string ⟨#[]⟩,.slice none 0 0,.bool false,.bool false,.bool false],.iface 36 (.int .i64 81)]) ) from fun W=>by
    rw [HRES.out];unfold planL;rw [if_neg hk0,if_pos hm];rfl)
   have hm2:=HEM.out hm;go_wp2_with (refine wpList_store_row rfl 27 _ _ rfl g3 #[.string ⟨#[]⟩,.string ⟨#[]⟩,.slice none 0 0,.bool false,.bool false,.bool false] rfl rfl 27 _ HRS.out (by kernel_rfl) (by rfl) (by kernel_rfl) ?_)
   have hg8:=setRow_heap _ g3 _ #[.string ⟨#[]⟩,.string ⟨#[]⟩,.slice none 0 0,.bool false,.bool false,.bool false] _ _ HRS.out;have hl9:=load_plan hg8;have HM8:=zh (mod_row HM1.out HNB.out.2.2 #[.string ⟨#[]⟩,.string ⟨#[]⟩,.slice none 0 0,.bool false,.bool false,.bool false]);exact bodyPost_ret (v:=.tuple #[.agg #[.string ⟨#[]⟩,.string ⟨#[]⟩,.slice none 0 0,.bool false,.bool false,.bool false],.iface 36 (.int .i64 81)]) (by simp [results,results30,asAddr,hl9]) rfl (fin hR ⟨HPL.out _,HM8.out⟩)
  ·have hm2:man.isEmpty=false:=by simpa using hm
   have HPL:=zh (show RES=match mfOf man with
    | none=>.error 62
    | some m=>match lockL lock with
     | none=>.error 63
     | some pins=>kindL xl m pins man lock kd name text by
    rw [HRES.out];unfold planL;rw [if_neg hk0,if_neg hm] <;> rfl)
   have HMW:=zh (HMP.out hk0 w1 HM1.out);clear HRES HMP HBG hm;go_wp2_with fail
   with_reducible refine HMW.out.mono ?_
   rintro e w2 ⟨hres,hm2⟩;have HM2:=zh (HM1.out.trans hm2);have HST2:=zh (hm2.keep HST.out (fun f=>f));have HGC2:=zh (hm2.keep HGC.out (fun f=>f));have HRS2:=zh (hm2.keep HRS.out (fun f=>f));clear hm2 HMW a0 k0 HST HGC HRS;unfold MfRes at hres;cases hmf:mfOf man with
   | none =>
    rw [hmf] at hres HPL;obtain ⟨i,rfl⟩:=hres;have HPE:=zh (show ∀ W,PlanRes W RES (.returned (.tuple #[.agg #[.string ⟨#[]⟩,.string ⟨#[]⟩,.slice none 0 0,.bool false,.bool false,.bool false],.iface 36 (.int .i64 62)]) ) from fun W=>by
     rw [HPL.out];rfl)
    unfold mftZ;clear HPL hmf;go_upto_region 8 with fail
    generalize hw3:World.alloc _ _=w3;have hm3:Mod No w2 w3:=by rw [<- hw3];exact (Mod.refl No w2).alloc _
    have HM3:=zh (HM2.out.trans hm3);have HRS3:=zh (hm3.keep HRS2.out (fun f=>f));clear hw3 hm3;go_wp2_with (refine wpList_store_row rfl 27 _ _ rfl g3 #[.string ⟨#[]⟩,.string ⟨#[]⟩,.slice none 0 0,.bool false,.bool false,.bool false] rfl rfl 27 _ HRS3.out (by kernel_rfl) (by rfl) (by kernel_rfl) ?_)
    have hg8:=setRow_heap _ g3 _ #[.string ⟨#[]⟩,.string ⟨#[]⟩,.slice none 0 0,.bool false,.bool false,.bool false] _ _ HRS3.out;have hl9:=load_plan hg8;have HM8:=zh (mod_row HM3.out HNB.out.2.2 #[.string ⟨#[]⟩,.string ⟨#[]⟩,.slice none 0 0,.bool false,.bool false,.bool false]);exact bodyPost_ret (v:=.tuple #[.agg #[.string ⟨#[]⟩,.string ⟨#[]⟩,.slice none 0 0,.bool false,.bool false,.bool false],.iface 36 (.int .i64 62)]) (by simp [results,results30,asAddr,hl9]) rfl (fin hR ⟨HPE.out _,HM8.out⟩)
   | some m =>
    rw [hmf] at hres HPL;obtain ⟨mv,rfl,hat⟩:=hres;have HGD:=zh (mfOf_gd hmf);have HADM:=zh (HAD.out hk0 m hmf);have HAT2:=zh hat;obtain ⟨B1,v0,v1,v2,pa,pn,pc,na,n,nc,rfl⟩:=mft_cells hat;clear hat hmf;go_upto_region 8 with fail
    obtain ⟨gm,hgm⟩:∃ g,g=w2.heap.size:=⟨_,rfl⟩
    rw [<- hgm];generalize hw3:World.alloc _ _=w3;have hm3:Mod No w2 w3:=by rw [<- hw3];exact (Mod.refl No w2).alloc _
    have HM3:=zh (HM2.out.trans hm3);have HGM3:=zh (show w3.heap[gm]? = some (.cells #[.string B1,.int .i64 v0,.int .i64 v1,.int .i64 v2,.slice pa pn pc,.slice na n nc] 46 (0,0)) by rw [<- hw3,hgm];exact heap_alloc_new w2 _);have HST3:=zh (hm3.keep HST2.out (fun f=>f));have HGC3:=zh (hm3.keep HGC2.out (fun f=>f));have HRS3:=zh (hm3.keep HRS2.out (fun f=>f));have HAT3:=zh (HAT2.out.no hm3);have HGMN:=zh (show w.heap.size<=gm by have:=HM2.out.size;omega);clear hw3 hm3 hgm HST2 HGC2 HRS2 HAT2;go_upto_region 11 with fail
    obtain ⟨gp,hgp⟩:∃ g,g=w3.heap.size:=⟨_,rfl⟩
    rw [<- hgp];generalize hw4:World.alloc _ _=w4;have hm4:Mod No w3 w4:=by rw [<- hw4];exact (Mod.refl No w3).alloc _
    have HM4:=zh (HM3.out.trans hm4);have HGP4:=zh (show w4.heap[gp]? = some (.cells #[.slice none 0 0] 25 (0,0)) by rw [<- hw4,hgp];exact heap_alloc_new w3 _);have HGM4:=zh (hm4.keep HGM3.out (fun f=>f));have HST4:=zh (hm4.keep HST3.out (fun f=>f));have HGC4:=zh (hm4.keep HGC3.out (fun f=>f));have HRS4:=zh (hm4.keep HRS3.out (fun f=>f));have HAT4:=zh (HAT3.out.no hm4);have HGPN:=zh (show w.heap.size<=gp by have:=HM3.out.size;omega);have a1:=cell_ofA HST4.out (i:=1) (v:=.string L1) rfl;clear hw4 hm4 hgp HST3 HGC3 HRS3 HAT3 HGM3;have hl:lock ≠ []:=HLK.out hk0;have hl2:lock.isEmpty=false:=by simpa using hl
    have HLW:=zh (HLP.out hk0 w4 HM4.out);have HPM:=zh (show RES=match lkOf lock with
     | none=>.error 63
     | some pins=>kindL xl m pins man lock kd name text by rw [HPL.out];unfold lockL;rw [if_neg hl] <;> rfl)
    clear HLP HPL hl;go_wp2_with fail
    with_reducible refine HLW.out.mono ?_
    rintro e w6 ⟨hres,hm6⟩;have HM6:=zh (HM4.out.trans hm6);have HGP6:=zh (hm6.keep HGP4.out (fun f=>f));have HGM6:=zh (hm6.keep HGM4.out (fun f=>f));have HST6:=zh (hm6.keep HST4.out (fun f=>f));have HGC6:=zh (hm6.keep HGC4.out (fun f=>f));have HRS6:=zh (hm6.keep HRS4.out (fun f=>f));have HAT6:=zh (HAT4.out.no hm6);have p0:=cell_ofA HGP6.out (i:=0) (v:=.slice none 0 0) rfl;have z0:=frozen_of 0 HGP6.out;clear hm6 HLW a1 HGP4 HGM4 HST4 HGC4 HRS4 HAT4 HM4;unfold LkRes at hres;cases hlk:lkOf lock with
    | none =>
     rw [hlk] at hres HPM;obtain ⟨i,rfl⟩:=hres;have HPE:=zh (show ∀ W,PlanRes W RES (.returned (.tuple #[.agg #[.string ⟨#[]⟩,.string ⟨#[]⟩,.slice none 0 0,.bool false,.bool false,.bool false],.iface 36 (.int .i64 63)]) ) from fun W=>by
      rw [HPM.out];rfl)
     clear HPM hlk;go_upto_region 13 with fail
     generalize hw7:World.setCell _ _ _=w7;have hm7:Mod (fun q=>q=gp) w6 w7:=by rw [<- hw7];exact Mod.cell1 _ _ _ _
     have HM7:=zh (HM6.out.then hm7 (S:=No) (fun q hq e=>by have h1:=HGPN.out;have h2:q=gp:=e;omega));have HRS7:=zh (hm7.keep HRS6.out (fun e=>by
      have h2:g3=gp:=e;have h3:=HRS6.out;rw [h2,HGP6.out] at h3;have h7:=Obj.cells.inj (Option.some.inj h3);exact absurd h7.2.1 (by decide)))
     clear hw7 hm7 p0 z0;go_wp2_with (refine wpList_store_row rfl 27 _ _ rfl g3 #[.string ⟨#[]⟩,.string ⟨#[]⟩,.slice none 0 0,.bool false,.bool false,.bool false] rfl rfl 27 _ HRS7.out (by kernel_rfl) (by rfl) (by kernel_rfl) ?_)
     have hg8:=setRow_heap _ g3 _ #[.string ⟨#[]⟩,.string ⟨#[]⟩,.slice none 0 0,.bool false,.bool false,.bool false] _ _ HRS7.out;have hl9:=load_plan hg8;have HM8:=zh (mod_row HM7.out HNB.out.2.2 #[.string ⟨#[]⟩,.string ⟨#[]⟩,.slice none 0 0,.bool false,.bool false,.bool false]);exact bodyPost_ret (v:=.tuple #[.agg #[.string ⟨#[]⟩,.string ⟨#[]⟩,.slice none 0 0,.bool false,.bool false,.bool false],.iface 36 (.int .i64 63)]) (by simp [results,results30,asAddr,hl9]) rfl (fin hR ⟨HPE.out _,HM8.out⟩)
    | some pl =>
     rw [hlk] at hres HPM;obtain ⟨ps,pv,hpx,rfl,hsl,hpo,hx200⟩:=hres;subst hpx;obtain ⟨oa,oc,hpv⟩:=hsl.len;subst hpv;obtain ⟨on,hon⟩:∃ n,n=ps.length:=⟨_,rfl⟩
     have HON:=zh hon;have HSX:=zh hsl;have HPY:=zh hpo;have HP2:=zh hx200;rw [<- hon] at HSX ⊢;clear hsl hpo hx200 hon hlk;go_upto_region 13 with fail
     generalize hw5:World.setCell _ _ _=w5;have hm5:Mod (fun q=>q=gp) w6 w5:=by rw [<- hw5];exact Mod.cell1 _ _ _ _
     have hap:∀ (k:Nat) (c:Array Value) (fz:Nat × Nat) (e:TypeId),k=gp->w6.heap[k]? = some (.cells c e fz)->e=25:=fun k c fz e hk hc=>by
      subst hk;rw [HGP6.out] at hc;cases hc
      rfl
     have hne:∀ (k:Nat) (c:Array Value) (e:TypeId),w6.heap[k]? = some (.cells c e (0,0))->e ≠ 25->¬ k=gp:=fun k c e hc he hk=>he (hap k c _ e hk hc)
     have HM5:=zh (HM6.out.then hm5 (S:=No) (fun q hq e=>by have h1:=HGPN.out;have h2:q=gp:=e;omega));have HGP5:=zh (show w5.heap[gp]? = some (.cells #[.slice oa on oc] 25 (0,0)) by rw [<- hw5];exact heap_setCell HGP6.out _);have HGM5:=zh (hm5.keep HGM6.out (hne _ _ _ HGM6.out (by decide)));have HST5:=zh (hm5.keep HST6.out (hne _ _ _ HST6.out (by decide)));have HGC5:=zh (hm5.keep HGC6.out (hne _ _ _ HGC6.out (by decide)));have HRS5:=zh (hm5.keep HRS6.out (hne _ _ _ HRS6.out (by decide)));have HPX:=zh (show Sl w5 No 120 (.slice oa on oc) ps.length (ps.flatMap PnX.cells) from by rw [<- HON.out];exact HSX.out.keep hm5 (fun k c fz a _ hc=>absurd (hap k c fz _ a hc) (by decide)));have HPO:=zh (show ∀ x ∈ ps,PnS w5 x/\Sl w5 No 9 x.pv x.p.v.pre.length (strs x.p.v.pre) from fun x hx=>by
      have h4:=(HPY.out x hx).pre.keep hm5 (fun k c fz a _ hc=>absurd (hap k c fz _ a hc) (by decide));exact ⟨⟨(HPY.out x hx).sum,(HPY.out x hx).small,.of h4⟩,h4⟩)
     have HAT5:=zh (show MftAt w5 (.agg #[.string B1,.int .i64 v0,.int .i64 v1,.int .i64 v2,.slice pa pn pc,.slice na n nc]) m from by
      obtain ⟨qa,qc,ra,rc,h1,h2,h3⟩:=HAT6.out;refine ⟨qa,qc,ra,rc,h1,h2.keep hm5 (fun k c fz a _ hc=>absurd (hap k c fz _ a hc) (by decide)),h3.keep hm5 (fun k c fz e hk hc he=>?_)⟩
      have h4:=hap k c fz e hk hc;subst h4;revert he;decide)
     clear hw5 hm5 hap hne p0 z0 HGP6 HGM6 HST6 HGC6 HRS6 HSX HPY HAT6 HM6;go_upto_region 15 with fail
     have a0:=cell_ofA HST5.out (i:=0) (v:=.string M1) rfl;have a1:=cell_ofA HST5.out (i:=1) (v:=.string L1) rfl;have p0:=cell_ofA HGP5.out (i:=0) (v:=.slice oa on oc) rfl;go_upto_region 16 with fail
     obtain ⟨gs,hgs⟩:∃ g,g=w5.heap.size:=⟨_,rfl⟩
     rw [<- hgs];generalize hw6:World.alloc _ _=w6;have hm6:Mod No w5 w6:=by rw [<- hw6];exact (Mod.refl No w5).alloc _
     have HM6:=zh (HM5.out.trans hm6);have HGS6:=zh (show w6.heap[gs]? = some (.cells #[.string M1,.string L1,.slice oa on oc,.bool false,.bool false,.bool false] 27 (0,0)) by rw [<- hw6,hgs];exact heap_alloc_new w5 _);have HGP6:=zh (hm6.keep HGP5.out (fun f=>f));have HGM6:=zh (hm6.keep HGM5.out (fun f=>f));have HGC6:=zh (hm6.keep HGC5.out (fun f=>f));have HRS6:=zh (hm6.keep HRS5.out (fun f=>f));have HAT6:=zh (HAT5.out.no hm6);have HPX6:=zh (HPX.out.kn hm6);have HPO6:=zh (show ∀ x ∈ ps,PnS w6 x/\Sl w6 No 9 x.pv x.p.v.pre.length (strs x.p.v.pre) from fun x hx=>⟨(HPO.out x hx).1.keep hm6,(HPO.out x hx).2.kn hm6⟩);have HPA6:=zh (show PnsAt w6 (.slice oa on oc) (ps.map PnX.p) from ⟨ps,rfl,by rw [List.length_map];exact HPX6.out,HPO6.out⟩);have HGSN:=zh (show w.heap.size<=gs/\gs ≠ g3 from ⟨by have:=HM5.out.size;omega,fun e=>by have:=lt_of_heap HRS5.out;omega⟩);have k0:=cell_ofA HGC6.out (i:=0) (v:=.int .i64 kd) rfl;have HGRG:=zh (show w6.rangeAt gm 0 [.string B1,.int .i64 v0,.int .i64 v1,.int .i64 v2,.slice pa pn pc,.slice na n nc] from fun u x hx=>by rw [Nat.zero_add];exact cell_ofA HGM6.out (by rw [List.getElem?_toArray];exact hx));have HCRG:=zh (show w6.rangeAt g2 0 [.int .i64 kd,.string N1,.string T1] from fun u x hx=>by rw [Nat.zero_add];exact cell_ofA HGC6.out (by rw [List.getElem?_toArray];exact hx));clear hw6 hm6 hgs a0 a1 p0 HST5 HGP5 HGM5 HGC5 HRS5 HAT5 HPX HPO HM5;have hk1:kd=1:=(HKD.out).resolve_left hk0;subst hk1;have HPK:=zh (show RES=match addL m name text with
      | .error c=>.error c
      | .ok m'=>solvedL xl m' by rw [HPM.out];unfold kindL;rw [if_pos rfl] <;> rfl)
     have HADW:=zh (HADM.out _ 1 w6 HM6.out HAT6.out);clear HAD HADM HPM hk0';go_wp2_with (first | (refine wpList_load_mid rfl 46 _ rfl gm 0 rfl [.string B1,.int .i64 v0,.int .i64 v1,.int .i64 v2,.slice pa pn pc,.slice na n nc] _ HGRG.out underlying46 rfl (by kernel_rfl) ?_) | (refine wpList_load_mid rfl 24 _ rfl g2 0 rfl [.int .i64 1,.string N1,.string T1] _ HCRG.out underlying24 rfl (by kernel_rfl) ?_))
     with_reducible refine HADW.out.mono ?_
     rintro e w7 ⟨hres,hm7⟩;have HM7:=zh (HM6.out.trans hm7);have HGM7:=zh (hm7.keep HGM6.out (fun f=>f));have HRS7:=zh (hm7.keep HRS6.out (fun f=>f));clear hm7 HADW k0 HGRG HCRG;unfold PaddRes at hres;cases hadd:addL m name text with
     | error c =>
      rw [hadd] at hres HPK;obtain ⟨v',m',rfl,hat⟩:=hres;obtain ⟨B2,u0,u1,u2,qa,qn,qc,ra,rn,rc,rfl⟩:=mft_cells hat;have HPE:=zh (show ∀ W,PlanRes W RES (.returned (.tuple #[.agg #[.string ⟨#[]⟩,.string ⟨#[]⟩,.slice none 0 0,.bool false,.bool false,.bool false],.iface 36 (.int .i64 c)]) ) from fun W=>by
       rw [HPK.out];rfl)
      unfold errnoV;clear hat HPK hadd;go_upto_region 24 with fail
      generalize hw8:World.alloc _ _=w8;have hm8:Mod No w7 w8:=by rw [<- hw8];exact (Mod.refl No w7).alloc _
      have HM8':=zh (HM7.out.trans hm8);have HRS8:=zh (hm8.keep HRS7.out (fun f=>f));clear hw8 hm8;go_wp2_with (refine wpList_store_row rfl 27 _ _ rfl g3 #[.string ⟨#[]⟩,.string ⟨#[]⟩,.slice none 0 0,.bool false,.bool false,.bool false] rfl rfl 27 _ HRS8.out (by kernel_rfl) (by rfl) (by kernel_rfl) ?_)
      have hg8:=setRow_heap _ g3 _ #[.string ⟨#[]⟩,.string ⟨#[]⟩,.slice none 0 0,.bool false,.bool false,.bool false] _ _ HRS8.out;have hl9:=load_plan hg8;have HM8:=zh (mod_row HM8'.out HNB.out.2.2 #[.string ⟨#[]⟩,.string ⟨#[]⟩,.slice none 0 0,.bool false,.bool false,.bool false]);exact bodyPost_ret (v:=.tuple #[.agg #[.string ⟨#[]⟩,.string ⟨#[]⟩,.slice none 0 0,.bool false,.bool false,.bool false],.iface 36 (.int .i64 c)]) (by simp [results,results30,asAddr,hl9]) rfl (fin hR ⟨HPE.out _,HM8.out⟩)
     | ok m' =>
      rw [hadd] at hres HPK;obtain ⟨v',rfl,hat⟩:=hres;have HAT7:=zh hat;have HGD2:=zh (show MfGd m' from by
       unfold addL at hadd;split at hadd
       ·cases hadd
       ·rename_i s hs;split at hadd
        ·cases hadd
        ·rename_i m2 h2;cases hadd
         exact HGD.out.add (n:=⟨name,s,text⟩) (HSPN.out s hs) HLEN.out h2)
      obtain ⟨B2,u0,u1,u2,qa,qn,qc,ra,rn,rc,rfl⟩:=mft_cells hat;have HPK2:=zh (show RES=solvedL xl m' from HPK.out);clear hat HPK hadd;go_upto_region 24 with fail
      obtain ⟨gn,hgn⟩:∃ g,g=w7.heap.size:=⟨_,rfl⟩
      rw [<- hgn];generalize hw8:World.alloc _ _=w8;have hm8:Mod No w7 w8:=by rw [<- hw8];exact (Mod.refl No w7).alloc _
      have HGN8:=zh (show w8.heap[gn]? = some (.cells #[.string B2,.int .i64 u0,.int .i64 u1,.int .i64 u2,.slice qa qn qc,.slice ra rn rc] 46 (0,0)) by rw [<- hw8,hgn];exact heap_alloc_new w7 _);have HM8':=zh (HM7.out.trans hm8);have HRS8:=zh (hm8.keep HRS7.out (fun f=>f));have HGM8:=zh (hm8.keep HGM7.out (fun f=>f));have HAT8:=zh (HAT7.out.no hm8);have HNRG:=zh (show w8.rangeAt gn 0 [.string B2,.int .i64 u0,.int .i64 u1,.int .i64 u2,.slice qa qn qc,.slice ra rn rc] from fun u x hx=>by rw [Nat.zero_add];exact cell_ofA HGN8.out (by rw [List.getElem?_toArray];exact hx));clear hw8 hm8 hgn HAT7 HGM7 HRS7;go_upto_region 27 with (first | (refine wpList_load_mid rfl 46 _ rfl gn 0 rfl [.string B2,.int .i64 u0,.int .i64 u1,.int .i64 u2,.slice qa qn qc,.slice ra rn rc] _ HNRG.out underlying46 rfl (by kernel_rfl) ?_) | (refine wpList_store_row rfl 46 _ _ rfl gm #[.string B2,.int .i64 u0,.int .i64 u1,.int .i64 u2,.slice qa qn qc,.slice ra rn rc] rfl rfl 46 _ HGM8.out (by kernel_rfl) (by rfl) (by kernel_rfl) ?_))
      generalize hw9:World.setRow _ gm _=w9;have hg9:w9.heap[gm]? = some (.cells #[.string B2,.int .i64 u0,.int .i64 u1,.int .i64 u2,.slice qa qn qc,.slice ra rn rc] 46 (0,0)):=by rw [<- hw9];exact setRow_heap _ _ _ _ _ _ HGM8.out
      have HM9:=zh (show Mod No w w9 by rw [<- hw9];exact mod_row HM8'.out HGMN.out _);have HAT9:=zh (show MftAt w9 (.agg #[.string B2,.int .i64 u0,.int .i64 u1,.int .i64 u2,.slice qa qn qc,.slice ra rn rc]) m' by rw [<- hw9];exact HAT8.out.row HGM8.out);have HRS9:=zh (show w9.heap[g3]? = some (.cells #[.string ⟨#[]⟩,.string ⟨#[]⟩,.slice none 0 0,.bool false,.bool false,.bool false] 27 (0,0)) from by
       have hm:Mod (fun q=>q=gm) w8 w9:=by rw [<- hw9];exact Mod.setRow (S:=fun q=>q=gm) (Mod.refl _ _) (fun _=>rfl) _
       exact hm.keep HRS8.out (fun e=>by
        have h2:g3=gm:=e;have h3:=HRS8.out;rw [h2,HGM8.out] at h3;have h7:=Obj.cells.inj (Option.some.inj h3);exact absurd h7.2.1 (by decide)))
      have HRG9:=zh (show w9.rangeAt gm 0 [.string B2,.int .i64 u0,.int .i64 u1,.int .i64 u2,.slice qa qn qc,.slice ra rn rc] from fun u x hx=>by rw [Nat.zero_add];exact cell_ofA hg9 (by rw [List.getElem?_toArray];exact hx));have HSW:=zh (HSV.out m' HGD2.out _ w9 HM9.out HAT9.out);rw [<- HPK2.out] at HSW;clear hw9 hg9 HSV HRS8 HGM8 HAT8 HNRG HGN8;go_wp2_with (refine wpList_load_mid rfl 46 _ rfl gm 0 rfl [.string B2,.int .i64 u0,.int .i64 u1,.int .i64 u2,.slice qa qn qc,.slice ra rn rc] _ HRG9.out underlying46 rfl (by kernel_rfl) ?_)
      with_reducible refine HSW.out.mono ?_
      rintro e wS ⟨hres,hmS⟩;obtain ⟨xa,xb,xc,xc1,xc2,d1,d2,d3,er,rfl,hkeep⟩:=hres.open_;have HRSS:=zh (hmS.keep HRS9.out (fun f=>f));have HMS:=zh (HM9.out.trans hmS);have HKP:=zh hkeep;clear hres hmS hkeep HSW;go_wp2_with (refine wpList_store_row rfl 27 _ _ rfl g3 #[.string xa,.string xb,.slice xc xc1 xc2,.bool d1,.bool d2,.bool d3] rfl rfl 27 _ HRSS.out (by kernel_rfl) (by rfl) (by kernel_rfl) ?_)
      have hg8:=setRow_heap _ g3 _ #[.string xa,.string xb,.slice xc xc1 xc2,.bool d1,.bool d2,.bool d3] _ _ HRSS.out;have hl9:=load_plan hg8;have HM8:=zh (mod_row HMS.out HNB.out.2.2 #[.string xa,.string xb,.slice xc xc1 xc2,.bool d1,.bool d2,.bool d3]);exact bodyPost_ret (v:=.tuple #[.agg #[.string xa,.string xb,.slice xc xc1 xc2,.bool d1,.bool d2,.bool d3],er]) (by simp [results,results30,asAddr,hl9]) rfl (fin hR ⟨HKP.out _ (fun _ _=>plan_kept HRSS.out _),HM8.out⟩)
theorem solvedL_ne {xl:List Rw} {m:Mf} {c:Int} (h:solvedL xl m=.error c):c ≠ 0:=by
 unfold solvedL at h;split at h
 ·cases h;decide
 ·cases h
theorem kindL_ne {xl:List Rw} {m:Mf} {pins:List Pn} {man lock:List UInt8} {kind:Int} {name text:List UInt8} {c:Int} (h:kindL xl m pins man lock kind name text=.error c):c ≠ 0:=by
 unfold kindL at h;split at h
 ·split at h
  ·rename_i c' hc;cases h
   unfold addL at hc;split at hc
   ·cases hc;decide
   ·split at hc
    ·cases hc;decide
    ·cases hc
  ·exact solvedL_ne h
 ·split at h
  ·exact solvedL_ne h
  ·split at h
   ·split at h
    ·exact solvedL_ne h
    ·cases h;decide
   ·split at h
    ·cases h
    ·split at h
     ·split at h
      ·cases h;decide
      ·cases h
     ·split at h
      ·cases h
      ·cases h;decide
theorem planL_ne {xl:List Rw} {man lock:List UInt8} {kind:Int} {name text:List UInt8} {c:Int} (h:planL xl man lock kind name text=.error c):c ≠ 0:=by
 unfold planL at h;split at h
 ·split at h
  ·unfold beginL at h;split at h
   ·cases h;decide
   ·split at h
    ·cases h;decide
    ·cases h
  ·cases h;decide
 ·split at h
  ·cases h;decide
  ·split at h
   ·cases h;decide
   ·split at h
    ·cases h;decide
    ·exact kindL_ne h
theorem planOf_lean (man lock:List UInt8) (hman:man.length<=1000000) (hlock:lock.length<=1000000) (ka:Option Addr) (kn kc:Nat) (ta:Option Addr) (tn tc:Nat) (rv:Value) (xs:List RwX) (nx:Nat->List NdX)
  (kd:Int) (name text:List UInt8) (hn:name.length<=400000) (ht:text.length<=400000) (w:World) (hr:RowsIn w rv xs nx) (hgl:Gl w) (herr:ErrTy w) (htab:TabOk w) (hkd:kd=0\/kd=1) (hlk:kd ≠ 0->lock=lockHead/\(linesL man).length<=2) :
  Calls prog 9 #[.agg #[strV man,strV lock,.slice ka kn kc,.slice ta tn tc],rv,.agg #[.int .i64 kd,strV name,strV text]] w fun e w'=>PlanRes2 w' name (planL (xs.map RwX.r) man lock kd name text) e/\Mod No w w':=by
 refine calls_hide fun R hR=>?_
 have HOF:=zh (fun (W:World) (hw:Mod No w W)=>planof_lean man lock hman hlock ka kn kc ta tn tc rv xs nx kd name text hn ht W (hr.keep hw) (hgl.stay hw (fun f=>f)) (herr.keep hw (fun f=>f)) (htab.keep hw (fun f=>f)) hkd hlk);have HER:=zh herr;clear hman hlock hn ht hr hgl herr htab hkd hlk;have HNE:=zh (fun (c:Int) (h:planL (xs.map RwX.r) man lock kd name text=.error c)=>planL_ne h);generalize planL (xs.map RwX.r) man lock kd name text=RES at *;unfold PlanRes2 at hR;unfold strV at *;generalize (⟨man.toArray⟩:ByteArray)=M1 at *;generalize (⟨lock.toArray⟩:ByteArray)=L1 at *;generalize (⟨name.toArray⟩:ByteArray)=N1 at *;generalize (⟨text.toArray⟩:ByteArray)=T1 at *;go_enter func9,ntmps9
 go_upto_region 1 with fail
 obtain ⟨gb,hgb⟩:∃ g,g=w.heap.size:=⟨_,rfl⟩
 rw [<- hgb];generalize hw1:World.alloc _ _=w1;have hs:∀ (W:World) (o:Obj) (k:Nat),W.heap.size=k->(W.alloc o).heap.size=k+1:=fun W o k h=>by rw [<- h];exact Array.size_push _
 have hst:w1.heap[gb]? = some (.cells #[.string M1,.string L1,.slice ka kn kc,.slice ta tn tc] 35 (0,0)):=by rw [<- hw1,hgb];exact heap_alloc_old _ (heap_alloc_old _ (heap_alloc_new w _))
 have hgc:w1.heap[gb+1]? = some (.cells #[.int .i64 kd,.string N1,.string T1] 24 (0,0)):=by
  rw [<- hw1];refine heap_alloc_old _ ?_;have h1:=heap_alloc_new (w.alloc (.cells #[.string M1,.string L1,.slice ka kn kc,.slice ta tn tc] 35)) (.cells #[.int .i64 kd,.string N1,.string T1] 24);rw [hs _ _ gb hgb.symm] at h1;exact h1
 have hrs:w1.heap[gb+2]? = some (.cells #[.string ⟨#[]⟩,.string ⟨#[]⟩,.slice none 0 0,.bool false,.bool false,.bool false] 27 (0,0)):=by
  rw [<- hw1];have h2:=heap_alloc_new ((w.alloc (.cells #[.string M1,.string L1,.slice ka kn kc,.slice ta tn tc] 35)).alloc (.cells #[.int .i64 kd,.string N1,.string T1] 24)) (.cells #[.string ⟨#[]⟩,.string ⟨#[]⟩,.slice none 0 0,.bool false,.bool false,.bool false] 27);rw [hs _ _ (gb+1) (hs _ _ gb hgb.symm)] at h2;exact h2
 have hm1:Mod No w w1:=by rw [<- hw1];exact (((Mod.refl No w).alloc _).alloc _).alloc _
 obtain ⟨g2,hg2⟩:∃ g,g=gb+1:=⟨_,rfl⟩
 obtain ⟨g3,hg3⟩:∃ g,g=g2+1:=⟨_,rfl⟩
 rw [<- hg2] at hgc;rw [show gb+2=g3 by omega] at hrs;rw [<- hg2,<- hg3];have HGC:=zh hgc;have HRS:=zh hrs;have HM1:=zh hm1;have HN3:=zh (show w.heap.size<=g3 by omega);have HSRG:=zh (show w1.rangeAt gb 0 [.string M1,.string L1,.slice ka kn kc,.slice ta tn tc] from fun u x hx=>by rw [Nat.zero_add];exact cell_ofA hst (by rw [List.getElem?_toArray];exact hx));have HCRG:=zh (show w1.rangeAt g2 0 [.int .i64 kd,.string N1,.string T1] from fun u x hx=>by rw [Nat.zero_add];exact cell_ofA hgc (by rw [List.getElem?_toArray];exact hx));have HOW:=zh (HOF.out w1 hm1);clear hw1 hst hgc hrs hm1 hg2 hg3 hgb hs HOF;go_wp2_with (first | (refine wpList_load_mid rfl 35 _ rfl gb 0 rfl [.string M1,.string L1,.slice ka kn kc,.slice ta tn tc] _ HSRG.out underlying35 rfl (by kernel_rfl) ?_) | (refine wpList_load_mid rfl 24 _ rfl g2 0 rfl [.int .i64 kd,.string N1,.string T1] _ HCRG.out underlying24 rfl (by kernel_rfl) ?_))
 with_reducible refine HOW.out.mono ?_
 rintro e w2 ⟨hres,hm2⟩;have HM2:=zh (HM1.out.trans hm2);have HGC2:=zh (hm2.keep HGC.out (fun f=>f));have HRS2:=zh (hm2.keep HRS.out (fun f=>f));clear hm2 HOW HSRG HCRG HGC HRS;unfold PlanRes at hres;cases RES with
 | error c =>
  have he:e=.returned (.tuple #[planZ,errnoV c]):=hres;subst he;have HC0:=zh (HNE.out c rfl);clear hres HNE;unfold planZ errnoV;go_upto_region 3 with fail
  obtain ⟨gp,hgp⟩:∃ g,g=w2.heap.size:=⟨_,rfl⟩
  rw [<- hgp];generalize hw3:World.alloc w2 _=w3;have hs3:w3.heap.size=gp+1:=by rw [<- hw3,hgp];exact Array.size_push _
  obtain ⟨gn,hgn⟩:∃ g,g=gp+1:=⟨_,rfl⟩
  rw [<- hgn];generalize hw4:World.alloc w3 _=w4;have hm4:Mod No w2 w4:=by rw [<- hw4,<- hw3];exact ((Mod.refl No w2).alloc _).alloc _
  have hn4:w4.heap[gn]? = some (.cells #[.int .i64 0] 36 (0,0)):=by rw [<- hw4,hgn,<- hs3];exact heap_alloc_new w3 _
  have HM4:=zh (HM2.out.trans hm4);have HGC4:=zh (hm4.keep HGC2.out (fun f=>f));have HRS4:=zh (hm4.keep HRS2.out (fun f=>f));have HGN:=zh (show w.heap.size<=gn by have:=HM2.out.size;omega);have HNE2:=zh (show ∀ (k:Nat) (cs:Array Value) (e:TypeId),w4.heap[k]? = some (.cells cs e (0,0))->e ≠ 36->¬ k=gn from fun k cs e hc he hk=>by
   subst hk;rw [hn4] at hc;cases hc
   exact he rfl)
  have HAS:=zh (as_numM c gn 0 w4 (HER.out.keep HM4.out (fun f=>f)) hn4);unfold errnoV at HAS;clear hw3 hw4 hs3 hm4 hn4 hgn hgp HGC2 HRS2;go_wp2_with fail
  with_reducible refine HAS.out.mono ?_
  rintro e w5 ⟨rfl,hn5,hm5⟩;have HM5:=zh (HM4.out.then hm5 (S:=No) (fun q hq e=>by have h1:=HGN.out;have h2:q=gn:=e;omega));have HRS5:=zh (hm5.keep HRS4.out (HNE2.out _ _ _ HRS4.out (by decide)));have n1:=cell_ofA (hm5.keep HGC4.out (HNE2.out _ _ _ HGC4.out (by decide))) (i:=1) (v:=.string N1) rfl;have n5:=cell_ofA hn5 (i:=0) (v:=.int .i64 c) rfl;have HWR:=zh (wrap_errno ⟨#[112,108,97,110]⟩ N1 c w5 HC0.out);unfold errnoV at HWR;clear hn5 hm5 HAS HGC4 HRS4 HNE2;go_wp2_with fail
  with_reducible refine HWR.out.mono ?_
  rintro e w6 ⟨rfl,hw6⟩;obtain ⟨fb,hfb⟩:∃ f,f=w5.heap.size:=⟨_,rfl⟩
  rw [<- hfb];have hm6:Mod No w5 w6:=by rw [hw6];exact (Mod.refl No w5).alloc _
  have HF6:=zh (show w6.heap[fb]? = some (.cells #[.string ⟨#[112,108,97,110]⟩,.string N1,.iface 36 (.int .i64 c)] 165 (0,0)) by rw [hw6,hfb];exact heap_alloc_new w5 _);have HM6:=zh (HM5.out.trans hm6);have HRS6:=zh (hm6.keep HRS5.out (fun f=>f));have HFN:=zh (show ¬ fb=g3 from fun e=>by have:=lt_of_heap HRS5.out;omega);clear hw6 hm6 hfb HWR n1 n5;unfold faultV;go_wp2_with (refine wpList_store_row rfl 27 _ _ rfl g3 #[.string ⟨#[]⟩,.string ⟨#[]⟩,.slice none 0 0,.bool false,.bool false,.bool false] rfl rfl 27 _ HRS6.out (by kernel_rfl) (by rfl) (by kernel_rfl) ?_)
  have hg8:=setRow_heap _ g3 _ #[.string ⟨#[]⟩,.string ⟨#[]⟩,.slice none 0 0,.bool false,.bool false,.bool false] _ _ HRS6.out;have hl9:=load_plan hg8;have HM8:=zh (mod_row HM6.out HN3.out #[.string ⟨#[]⟩,.string ⟨#[]⟩,.slice none 0 0,.bool false,.bool false,.bool false]);have HF8:=zh ((show Mod (fun q=>q=g3) w6 (w6.setRow g3 #[.string ⟨#[]⟩,.string ⟨#[]⟩,.slice none 0 0,.bool false,.bool false,.bool false]) from Mod.setRow (S:=fun q=>q=g3) (Mod.refl _ _) (fun _=>rfl) _).keep HF6.out HFN.out);exact bodyPost_ret (v:=.tuple #[.agg #[.string ⟨#[]⟩,.string ⟨#[]⟩,.slice none 0 0,.bool false,.bool false,.bool false],.iface 163 (.pointer (some ⟨fb,0,none⟩))]) (by simp [results,results9,asAddr,hl9]) rfl (fin hR ⟨⟨fb,rfl,HF8.out⟩,HM8.out⟩)
 | ok p =>
  obtain ⟨pv,rfl,hps,hp2⟩:=(show ∃ pv,e=.returned (.tuple #[planV p pv,.nilIface])/\PnsAt w2 pv p.pins/\p.pins.length<=200 from hres)
  have HPS:=zh hps;have HP2:=zh hp2;obtain ⟨va,vm,vc,rfl⟩:∃ a m c,pv=.slice a m c:=by obtain ⟨ps,-,h2,-⟩:=hps;obtain ⟨a,c,e⟩:=h2.len;exact ⟨a,_,c,e⟩
  clear hres HNE hps hp2;have HFIN:=zh (show ∀ W,PnsAt W (.slice va vm vc) p.pins->Mod No w W->R (.returned (.tuple #[.agg #[strV p.man,strV p.lock,.slice va vm vc,.bool p.build,.bool p.sweep,.bool p.check],.nilIface])) W from fun W h hm=>fin hR ⟨⟨.slice va vm vc,rfl,h,HP2.out⟩,hm⟩);have HPV:=zh (show planV p (.slice va vm vc)=.agg #[strV p.man,strV p.lock,.slice va vm vc,.bool p.build,.bool p.sweep,.bool p.check] from rfl);rw [HPV.out];unfold strV at HFIN ⊢;clear hR HPV;generalize (⟨p.man.toArray⟩:ByteArray)=P1 at *;generalize (⟨p.lock.toArray⟩:ByteArray)=P2 at *;generalize p.build=b1 at *;generalize p.sweep=b2 at *;generalize p.check=b3 at *;generalize p.pins=pins at *;go_upto_region 3 with fail
  obtain ⟨gp,hgp⟩:∃ g,g=w2.heap.size:=⟨_,rfl⟩
  rw [<- hgp];generalize hw3:World.alloc w2 _=w3;have hs3:w3.heap.size=gp+1:=by rw [<- hw3,hgp];exact Array.size_push _
  obtain ⟨gn,hgn⟩:∃ g,g=gp+1:=⟨_,rfl⟩
  rw [<- hgn];have hp3:w3.heap[gp]? = some (.cells #[.string P1,.string P2,.slice va vm vc,.bool b1,.bool b2,.bool b3] 27 (0,0)):=by rw [<- hw3,hgp];exact heap_alloc_new w2 _
  generalize hw4:World.alloc w3 _=w4;have hm4:Mod No w2 w4:=by rw [<- hw4,<- hw3];exact ((Mod.refl No w2).alloc _).alloc _
  have hp4:w4.heap[gp]? = some (.cells #[.string P1,.string P2,.slice va vm vc,.bool b1,.bool b2,.bool b3] 27 (0,0)):=by rw [<- hw4];exact heap_alloc_old _ hp3
  have HM4:=zh (HM2.out.trans hm4);have HRS4:=zh (hm4.keep HRS2.out (fun f=>f));have HPS4:=zh (HPS.out.no hm4);have HPRG:=zh (show w4.rangeAt gp 0 [.string P1,.string P2,.slice va vm vc,.bool b1,.bool b2,.bool b3] from fun u x hx=>by rw [Nat.zero_add];exact cell_ofA hp4 (by rw [List.getElem?_toArray];exact hx));have HAS:=zh (as_nil (.iface 85 (.pointer (some ⟨gn,0,none⟩))) w4);clear hw3 hw4 hs3 hm4 hp3 hp4 hgn hgp HGC2 HRS2 HPS;go_wp2_with fail
  with_reducible refine HAS.out.mono ?_
  rintro e w5 ⟨rfl,hw5⟩;rw [hw5];clear hw5 HAS;go_wp2_with (first | (refine wpList_load_mid rfl 27 _ rfl gp 0 rfl [.string P1,.string P2,.slice va vm vc,.bool b1,.bool b2,.bool b3] _ HPRG.out underlying27 rfl (by kernel_rfl) ?_) | (refine wpList_store_row rfl 27 _ _ rfl g3 #[.string P1,.string P2,.slice va vm vc,.bool b1,.bool b2,.bool b3] rfl rfl 27 _ HRS4.out (by kernel_rfl) (by rfl) (by kernel_rfl) ?_))
  have hg8:=setRow_heap _ g3 _ #[.string P1,.string P2,.slice va vm vc,.bool b1,.bool b2,.bool b3] _ _ HRS4.out;have hl9:=load_plan hg8;have HM8:=zh (mod_row HM4.out HN3.out #[.string P1,.string P2,.slice va vm vc,.bool b1,.bool b2,.bool b3]);exact bodyPost_ret (v:=.tuple #[.agg #[.string P1,.string P2,.slice va vm vc,.bool b1,.bool b2,.bool b3],.nilIface]) (by simp [results,results9,asAddr,hl9]) rfl (HFIN.out _ (plan_kept HRS4.out _ HPS4.out) HM8.out)
theorem kq_kept:keptK [] [kqR]=[kqR]:=rfl
theorem kq_row:(rowK kqR).name=[97]/\(rowK kqR).v=⟨1,0,0,[]⟩/\(rowK kqR).needs=[]:=⟨by decide +kernel,rfl,rfl⟩
theorem known_any (w:World) (hgl:Gl w) (herr:ErrTy w) (htab:TabOk w):Calls prog 8 #[] w fun e w'=>e=.returned (.bool true)/\Mod No w w':=by
 refine calls_hide fun R hR=>?_
 have HMADE:=zh (fun (W:World) (g:Nat) (hs:Sl W No 83 (.slice (some ⟨g,0,none⟩) 1 1) 1 [.int .u8 0,.int .u8 0,.slice none 0 0,.int .u8 0,.int .u8 0]) =>
  show Calls prog 16 #[.slice (some ⟨g,0,none⟩) 1 1] W fun e w'=>(∃ rv av ZT x nx,e=.returned (.tuple #[rv,av,.string ZT])/\RowsIn w' rv [x] nx/\x.r=rowK kqR)/\Mod No W w' from by
   have h:=made_lean [⟨kqR,.slice none 0 0⟩] (by simp) (fun x hx=>by obtain rfl:=List.mem_singleton.1 hx;rfl) (.slice (some ⟨g,0,none⟩) 1 1) W (fun x hx=>by
    obtain rfl:=List.mem_singleton.1 hx;exact ⟨⟨⟨none,0,rfl⟩,.inl ⟨rfl,rfl⟩⟩,by simp [kqR],fun t ht=>by simp [kqR] at ht⟩) (fun x hx=>by
    obtain rfl:=List.mem_singleton.1 hx;simp [kqR]) (.of (e:=83) hs)
   refine h.mono fun e w' ⟨⟨rv,av,ys,as',he,hmr⟩,hm⟩=>⟨?_,hm⟩
   obtain ⟨nx,hin⟩:=rows_in hmr (by simp) (fun r hr=>by
    obtain rfl:=List.mem_singleton.1 hr;simp [kqR])
   have h1:ys.map RwX.r=[rowK kqR]:=hmr.told.trans (by rw [show ([⟨kqR,.slice none 0 0⟩]:List SrX).map SrX.r=[kqR] from rfl,kq_kept];rfl);match ys,h1,hin with
   | [x],h1,hin=>exact ⟨rv,av,_,x,nx,he,hin,by simpa using h1⟩
   | [],h1,_=>cases h1
   | _ :: _ :: _,h1,_=>simp at h1)
 have HPO:=zh (fun (W:World) (hw:Mod No w W) (man lock:List UInt8) (hm:man.length<=1000) (hl:lock.length<=1000) (rv:Value) (x:RwX) (nx:Nat->List NdX) (hr:RowsIn W rv [x] nx) (kd:Int) (name text:List UInt8) (hn:name.length<=100) (ht:text.length<=100) (hkd:kd=0\/kd=1) (hlk:kd ≠ 0->lock=lockHead/\(linesL man).length<=2) =>
  planOf_lean man lock (by omega) (by omega) none 0 0 none 0 0 rv [x] nx kd name text (by omega) (by omega) W hr (hgl.stay hw (fun f=>f)) (herr.keep hw (fun f=>f)) (htab.keep hw (fun f=>f)) hkd hlk)
 have HER:=zh herr;clear hgl herr htab;go_enter func8,ntmps8
 go_wp2_with fail
 obtain ⟨g0,hg0⟩:∃ g,g=w.heap.size:=⟨_,rfl⟩
 rw [<- hg0];generalize hW1:World.alloc w _=W1;have hs1:Sl W1 No 83 (.slice (some ⟨g0,0,none⟩) 1 1) 1 [.int .u8 0,.int .u8 0,.slice none 0 0,.int .u8 0,.int .u8 0]:=by
  rw [<- hW1,hg0];exact sl_new w 83 [.int .u8 0,.int .u8 0,.slice none 0 0,.int .u8 0,.int .u8 0] (Nat.le_refl 1) (by unfold maxLen;omega)
 have HM1:=zh (show Mod No w W1 by rw [<- hW1];exact (Mod.refl No w).alloc _);have HC1:=zh (HMADE.out W1 g0 hs1);clear hW1 hs1 hg0 HMADE;with_reducible refine HC1.out.mono ?_
 rintro e w2 ⟨⟨rv,av,ZT,x,nx,rfl,hin,hx⟩,hm2⟩;have HM2:=zh (HM1.out.trans hm2);have HIN:=zh hin;have HX:=zh hx;have HXL:=zh (show ([x].map RwX.r)=[rowK kqR] by rw [List.map_cons,List.map_nil,hx]);have HP1:=zh (show Calls prog 9 #[.agg #[.string ⟨#[]⟩,.string ⟨#[]⟩,.slice none 0 0,.slice none 0 0],rv,.agg #[.int .i64 0,.string ⟨#[109,101]⟩,.string ⟨#[49,46,48,46,48]⟩]] w2 fun e w'=>(∃ a c,e=.returned (.tuple #[.agg #[strV (mfText kqMan),.string ⟨#[108,111,99,107,32,49,10]⟩,.slice a 0 c,.bool true,.bool false,.bool false],.nilIface]))/\Mod No w2 w' from
  (HPO.out w2 HM2.out [] [] (by simp) (by simp) rv x nx HIN.out 0 [109,101] [49,46,48,46,48] (by simp) (by simp) (.inl rfl) (fun h=>absurd rfl h)).mono fun e w' ⟨h,hm⟩=>⟨by
   rw [kq_init] at h;obtain ⟨pv,he,hp,-⟩:=h;obtain ⟨ps,h1,h2,-⟩:=hp;obtain ⟨a,c,e2⟩:=h2.len;exact ⟨a,c,by rw [he,e2];rfl⟩,hm⟩)
 clear hm2 HC1 HM1 hin hx;go_wp2_with fail
 with_reducible refine HP1.out.mono ?_
 rintro e w3 ⟨⟨a3,c3,rfl⟩,hm3⟩;have HM3:=zh (HM2.out.trans hm3);have HIN3:=zh (HIN.out.keep hm3);clear hm3 HP1 HM2 HIN;have HMT:=zh (show (mfText kqMan).length<=1000 by rw [kq_text];decide);obtain ⟨MT,hMT⟩:∃ MT,MT=mfText kqMan:=⟨_,rfl⟩
 rw [<- hMT];rw [<- hMT] at HMT;have HMTE:=zh hMT;clear hMT;unfold strV;obtain ⟨MA,hMA⟩:∃ Z:ByteArray,Z=⟨MT.toArray⟩:=⟨_,rfl⟩
 rw [<- hMA];have HMA:=zh hMA;clear hMA;have HP2:=zh (fun (W:World) (hw:Mod No w W) (hr:RowsIn W rv [x] nx)=>show Calls prog 9 #[.agg #[.string MA,.string ⟨#[108,111,99,107,32,49,10]⟩,.slice none 0 0,.slice none 0 0],rv,.agg #[.int .i64 1,.string ⟨#[97]⟩,.string ⟨#[94,49,46,48,46,48]⟩]] W fun e w'=>(∃ (pm pl:ByteArray) (a:Option Addr) (c:Nat) (b2 b3:Bool),e=.returned (.tuple #[.agg #[.string pm,.string pl,.slice a 1 c,.bool true,.bool b2,.bool b3],.nilIface]))/\Mod No W w' from by
  rw [HMA.out];refine (HPO.out W hw MT lockHead HMT.out (by decide) rv x nx hr 1 [97] [94,49,46,48,46,48] (by simp) (by simp) (.inr rfl) (fun _=>⟨rfl,by rw [HMTE.out,kq_text];decide⟩)).mono fun e w' ⟨h,hm⟩=>⟨?_,hm⟩
  rw [HXL.out,HMTE.out] at h;obtain ⟨p,hp,hb,h1⟩:=kq_add (rowK kqR) kq_row.1 kq_row.2.1 kq_row.2.2;rw [hp] at h;obtain ⟨pv,he,⟨ps,hq1,hq2,-⟩,-⟩:=h;rw [h1] at hq2;obtain ⟨a,c,e2⟩:=hq2.len;refine ⟨⟨p.man.toArray⟩,⟨p.lock.toArray⟩,a,c,p.sweep,p.check,?_⟩
  rw [he,e2];unfold planV;rw [hb] <;> rfl)
 have HP3:=zh (fun (W:World) (hw:Mod No w W) (hr:RowsIn W rv [x] nx)=>show Calls prog 9 #[.agg #[.string MA,.string ⟨#[108,111,99,107,32,49,10]⟩,.slice none 0 0,.slice none 0 0],rv,.agg #[.int .i64 1,.string ⟨#[98]⟩,.string ⟨#[42]⟩]] W fun e w'=>(∃ fb,e=.returned (.tuple #[.agg #[.string ⟨#[]⟩,.string ⟨#[]⟩,.slice none 0 0,.bool false,.bool false,.bool false],.iface 163 (.pointer (some ⟨fb,0,none⟩))])/\w'.heap[fb]? = some (.cells #[.string ⟨#[112,108,97,110]⟩,.string ⟨#[98]⟩,errnoV 70] 165 (0,0)))/\Mod No W w' from by
  rw [HMA.out];refine (HPO.out W hw MT lockHead HMT.out (by decide) rv x nx hr 1 [98] [42] (by simp) (by simp) (.inr rfl) (fun _=>⟨rfl,by rw [HMTE.out,kq_text];decide⟩)).mono fun e w' ⟨h,hm⟩=>⟨?_,hm⟩
  rw [HXL.out,HMTE.out,kq_bad (rowK kqR) kq_row.1] at h;exact h)
 clear HPO;go_upto_region 4 with fail
 obtain ⟨gp,hgp⟩:∃ g,g=w3.heap.size:=⟨_,rfl⟩
 rw [<- hgp];obtain ⟨g6,hg6⟩:∃ g,g=gp+1:=⟨_,rfl⟩
 rw [<- hg6];generalize hw4:World.alloc w3 _=w4;have hs4:w4.heap.size=g6:=by rw [<- hw4,hg6,hgp];exact Array.size_push _
 have hp4:w4.heap[gp]? = some (.cells #[.string MA,.string ⟨#[108,111,99,107,32,49,10]⟩,.slice a3 0 c3,.bool true,.bool false,.bool false] 27 (0,0)):=by rw [<- hw4,hgp];exact heap_alloc_new w3 _
 generalize hw5:World.alloc w4 _=w5;have hm5:Mod No w3 w5:=by rw [<- hw5,<- hw4];exact ((Mod.refl No w3).alloc _).alloc _
 have hs5:w5.heap[g6]? = some (.cells #[.string MA,.string ⟨#[108,111,99,107,32,49,10]⟩,.slice none 0 0,.slice none 0 0] 35 (0,0)):=by rw [<- hw5,<- hs4];exact heap_alloc_new w4 _
 have HP5:=zh (show w5.heap[gp]? = some (.cells #[.string MA,.string ⟨#[108,111,99,107,32,49,10]⟩,.slice a3 0 c3,.bool true,.bool false,.bool false] 27 (0,0)) by rw [<- hw5];exact heap_alloc_old _ hp4);have HS5:=zh hs5;have HM5:=zh (HM3.out.trans hm5);have HIN5:=zh (HIN3.out.keep hm5);have HRG:=zh (show w5.rangeAt g6 0 [.string MA,.string ⟨#[108,111,99,107,32,49,10]⟩,.slice none 0 0,.slice none 0 0] from fun u x hx=>by rw [Nat.zero_add];exact cell_ofA hs5 (by rw [List.getElem?_toArray];exact hx));have HPW:=zh (HP2.out w5 HM5.out HIN5.out);clear hw4 hw5 hs4 hp4 hm5 hs5 hgp hg6 HP2 HIN3 HM3;go_wp2_with (refine wpList_load_mid rfl 35 _ rfl g6 0 rfl [.string MA,.string ⟨#[108,111,99,107,32,49,10]⟩,.slice none 0 0,.slice none 0 0] _ HRG.out underlying35 rfl (by kernel_rfl) ?_)
 with_reducible refine HPW.out.mono ?_
 rintro e w6 ⟨⟨pm,pl,qa,qc,b2,b3,rfl⟩,hm6⟩;have HM6:=zh (HM5.out.trans hm6);have HP6:=zh (hm6.keep HP5.out (fun f=>f));have HS6:=zh (hm6.keep HS5.out (fun f=>f));have HIN6:=zh (HIN5.out.keep hm6);clear hm6 HPW HRG HP5 HS5 HIN5 HM5;go_upto_region 5 with fail
 obtain ⟨g7,hg7⟩:∃ g,g=w6.heap.size:=⟨_,rfl⟩
 rw [<- hg7];generalize hw7:World.alloc w6 _=w7;have hm7:Mod No w6 w7:=by rw [<- hw7];exact (Mod.refl No w6).alloc _
 have HQ7:=zh (show w7.heap[g7]? = some (.cells #[.string pm,.string pl,.slice qa 1 qc,.bool true,.bool b2,.bool b3] 27 (0,0)) by rw [<- hw7,hg7];exact heap_alloc_new w6 _);have HM7:=zh (HM6.out.trans hm7);have HP7:=zh (hm7.keep HP6.out (fun f=>f));have HIN7:=zh (HIN6.out.keep hm7);have hs7:=hm7.keep HS6.out (fun f=>f);have HRG:=zh (show w7.rangeAt g6 0 [.string MA,.string ⟨#[108,111,99,107,32,49,10]⟩,.slice none 0 0,.slice none 0 0] from fun u x hx=>by rw [Nat.zero_add];exact cell_ofA hs7 (by rw [List.getElem?_toArray];exact hx));have HPW:=zh (HP3.out w7 HM7.out HIN7.out);clear hw7 hm7 hs7 hg7 HP3 HIN6 HM6 HP6 HS6;go_wp2_with (refine wpList_load_mid rfl 35 _ rfl g6 0 rfl [.string MA,.string ⟨#[108,111,99,107,32,49,10]⟩,.slice none 0 0,.slice none 0 0] _ HRG.out underlying35 rfl (by kernel_rfl) ?_)
 with_reducible refine HPW.out.mono ?_
 rintro e w8 ⟨⟨fb,rfl,hfb⟩,hm8⟩;have HM8:=zh (HM7.out.trans hm8);have HP8:=zh (hm8.keep HP7.out (fun f=>f));have HQ8:=zh (hm8.keep HQ7.out (fun f=>f));have HFB:=zh hfb;clear hm8 hfb HPW HRG HP7 HQ7 HIN7 HM7;go_upto_region 6 with fail
 generalize hw9:World.alloc w8 _=w9;have hm9:Mod No w8 w9:=by rw [<- hw9];exact (Mod.refl No w8).alloc _
 have HM9:=zh (HM8.out.trans hm9);have hp9:=hm9.keep HP8.out (fun f=>f);have hq9:=hm9.keep HQ8.out (fun f=>f);have p1:=cell_ofA hp9 (i:=1) rfl;have p3:=cell_ofA hp9 (i:=3) rfl;have q2:=cell_ofA hq9 (i:=2) rfl;have q3:=cell_ofA hq9 (i:=3) rfl;have HCO:=zh (code_fault 70 fb ⟨#[112,108,97,110]⟩ ⟨#[98]⟩ w9 (HER.out.keep HM9.out (fun f=>f)) (hm9.keep HFB.out (fun f=>f)));unfold faultV at HCO;clear hw9 hm9 hp9 hq9 HP8 HQ8 HFB HM8;go_wp2_with fail
 with_reducible refine HCO.out.mono ?_
 rintro e w10 ⟨rfl,hm10⟩;have HM10:=zh (HM9.out.trans hm10);clear hm10 HCO;go_wp2_with fail
 exact fin hR ⟨rfl,HM10.out⟩
theorem pni_begin (name text:List UInt8):planL [] [] [] 0 name text=beginL name text:=by
 unfold planL;rw [if_pos rfl,if_pos rfl]
theorem pni_again (man name text:List UInt8):planL [] (120 :: man) [] 0 name text=.error 81:=by
 unfold planL;rw [if_pos rfl,if_neg (by simp)]
theorem pni_len {name text:List UInt8} {v:Ver} (hv:verOf text=some v) (hl:text.length<=100) (hn1:name.length<=100):(mfText ⟨name,v,[]⟩).length<=65536:=by
 unfold mfText mfHead;dsimp only;rw [verT_of hv];simp only [List.length_append,List.length_cons,List.length_nil,sortR,List.foldl_nil,List.flatMap_nil];have h5:nameW.length=5:=rfl;have h6:versionW.length=8:=rfl;omega
theorem pni_back {name text:List UInt8} {v:Ver} (hn:nameB name=true) (hv:verOf text=some v) (hl:text.length<=100) (hn1:name.length<=100):mfOf (mfText ⟨name,v,[]⟩)=some ⟨name,v,[]⟩:=by
 refine mfOf_text ⟨hn,by show verOf (verT v)=some v;rw [verT_of hv];exact hv,fun _ h=>(by cases h),List.Pairwise.nil,by simp⟩ (pni_len hv hl hn1)
theorem pni_two {name text:List UInt8} {v:Ver} (hn:nameB name=true) (hv:verOf text=some v):(linesL (mfText ⟨name,v,[]⟩)).length<=2:=by
 have hg:GoodM ⟨name,v,[]⟩:=⟨hn,by show verOf (verT v)=some v;rw [verT_of hv];exact hv,fun _ h=>(by cases h),List.Pairwise.nil,by simp⟩
 rw [mfText_lines hg.rises,lines_of _ (mfLines_no hg)];simp [mfLines]
theorem pni_open {w:World} {name text:List UInt8} {e:Ending} (h:PlanRes2 w name (beginL name text) e):∃ (pm pl:ByteArray) (pa:Option Addr) (pn pc:Nat) (b1 b2 b3:Bool) (er:Value),e=.returned (.tuple #[.agg #[.string pm,.string pl,.slice pa pn pc,.bool b1,.bool b2,.bool b3],er]) ∧
  ((nameB name=false/\∃ fb,er=faultV fb/\w.heap[fb]? = some (.cells #[.string ⟨#[112,108,97,110]⟩,strV name,errnoV 62] 165 (0,0))) ∨
   (nameB name=true/\verOf text=none/\∃ fb,er=faultV fb/\w.heap[fb]? = some (.cells #[.string ⟨#[112,108,97,110]⟩,strV name,errnoV 60] 165 (0,0))) ∨
   (nameB name=true/\∃ v,verOf text=some v/\er=.nilIface/\pm=⟨(mfText ⟨name,v,[]⟩).toArray⟩/\pl=⟨#[108,111,99,107,32,49,10]⟩/\pn=0/\b1=true)):=by
 unfold PlanRes2 beginL at h;cases hn:nameB name with
 | false =>
  rw [hn,if_pos rfl] at h;obtain ⟨fb,he,hf⟩:=h;exact ⟨_,_,_,_,_,_,_,_,_,he,.inl ⟨rfl,fb,rfl,hf⟩⟩
 | true =>
  rw [hn,if_neg (by simp)] at h;cases hv:verOf text with
  | none =>
   rw [hv] at h;obtain ⟨fb,he,hf⟩:=h;exact ⟨_,_,_,_,_,_,_,_,_,he,.inr (.inl ⟨rfl,rfl,fb,rfl,hf⟩)⟩
  | some v =>
   rw [hv] at h;obtain ⟨pv,he,hp,-⟩:=h;obtain ⟨ps,h1,h2,-⟩:=hp;obtain ⟨a,c,rfl⟩:=h2.len;exact ⟨_,_,_,_,_,_,_,_,_,he,.inr (.inr ⟨rfl,v,rfl,rfl,rfl,rfl,rfl,rfl⟩)⟩
theorem planinit_any (name text man:List UInt8) (w:World) (hgl:Gl w) (herr:ErrTy w) (htab:TabOk w) :
  Calls prog 3 #[strV name,strV text,strV man] w fun e w'=>e=.returned (.bool true)/\Mod No w w':=by
 refine calls_hide fun R hR=>?_
 have HKN:=zh (known_any w hgl herr htab);have HP1:=zh (fun (W:World) (hw:Mod No w W) (hn:name.length<=100) (ht:text.length<=100) =>
  show Calls prog 9 #[.agg #[.string ⟨#[]⟩,.string ⟨#[]⟩,.slice none 0 0,.slice none 0 0],.slice none 0 0,.agg #[.int .i64 0,strV name,strV text]] W fun e w'=>PlanRes2 w' name (beginL name text) e/\Mod No W w' from by
   rw [<- pni_begin];exact planOf_lean [] [] (by simp) (by simp) none 0 0 none 0 0 (.slice none 0 0) [] (fun _=>[]) 0 name text (by omega) (by omega) W (rows_no W) (hgl.stay hw (fun f=>f)) (herr.keep hw (fun f=>f)) (htab.keep hw (fun f=>f)) (.inl rfl) (fun h=>absurd rfl h))
 have HP2:=zh (fun (W:World) (hw:Mod No w W) (hn:name.length<=100) (ht:text.length<=100) (hm:man.length<=300) =>
  show Calls prog 9 #[.agg #[strV (120 :: man),.string ⟨#[]⟩,.slice none 0 0,.slice none 0 0],.slice none 0 0,.agg #[.int .i64 0,strV name,strV text]] W fun e w'=>PlanRes2 w' name (.error 81) e/\Mod No W w' from by
   rw [<- pni_again man name text];exact planOf_lean (120 :: man) [] (by simp;omega) (by simp) none 0 0 none 0 0 (.slice none 0 0) [] (fun _=>[]) 0 name text (by omega) (by omega) W (rows_no W) (hgl.stay hw (fun f=>f)) (herr.keep hw (fun f=>f)) (htab.keep hw (fun f=>f)) (.inl rfl) (fun h=>absurd rfl h))
 have HVO:=zh (fun (W:World) (ht:text.length<=100)=>refver_w text (by omega) W);have HRN:=zh (fun (W:World) (hn:name.length<=100)=>refname_any name (by omega) W);have HMF:=zh (fun (W:World) (v:Ver) (hn:nameB name=true) (hv:verOf text=some v) (hl:text.length<=100) (hl1:name.length<=100) =>
  show Calls prog 13 #[strV (mfText ⟨name,v,[]⟩)] W fun e w'=>(∃ v',e=.returned (.tuple #[v',.int .i64 0,.int .i64 0])/\MftAt w' v' ⟨name,v,[]⟩)/\Mod No W w' from
  (refmf_lean _ (Nat.le_trans (pni_len hv hl hl1) (by omega)) (pni_two hn hv) W).mono fun e w' ⟨h,hm⟩=>⟨by
   unfold MfRes at h;rw [pni_back hn hv hl hl1] at h;exact h,hm⟩)
 have HER:=zh herr;have HX:=zh (show (⟨#[120]⟩:ByteArray) ++ ⟨man.toArray⟩=⟨(120 :: man).toArray⟩ from by
  apply ByteArray.ext
  rw [ByteArray.data_append];apply Array.ext'
  simp)
 have z1:((⟨name.toArray⟩:ByteArray).size:Int)=(name.length:Int):=by rw [str_len3]
 have z2:((⟨text.toArray⟩:ByteArray).size:Int)=(text.length:Int):=by rw [str_len3]
 have z3:((⟨man.toArray⟩:ByteArray).size:Int)=(man.length:Int):=by rw [str_len3]
 clear hgl herr htab;unfold strV at *;obtain ⟨N1,hN1⟩:∃ Z:ByteArray,Z=⟨name.toArray⟩:=⟨_,rfl⟩
 obtain ⟨T1,hT1⟩:∃ Z:ByteArray,Z=⟨text.toArray⟩:=⟨_,rfl⟩
 obtain ⟨M1,hM1⟩:∃ Z:ByteArray,Z=⟨man.toArray⟩:=⟨_,rfl⟩
 obtain ⟨XM,hXM⟩:∃ Z:ByteArray,Z=⟨(120 :: man).toArray⟩:=⟨_,rfl⟩
 rw [<- hN1] at HP1 HP2 HRN z1 ⊢;rw [<- hT1] at HP1 HP2 HVO z2 ⊢;rw [<- hM1,<- hXM] at HX;rw [<- hM1] at z3 ⊢;rw [<- hXM] at HP2;have HN1:=zh hN1;clear hN1 hT1 hM1 hXM;go_enter func3,ntmps3
 go_wp2_with fail
 with_reducible refine HKN.out.mono ?_
 rintro e w1 ⟨rfl,hm1⟩;have HM1:=zh hm1;clear hm1 HKN;by_cases h1:100 < name.length
 ·have h1i:(100:Int) < (name.length:Int):=by omega
  go_wp2_with fail
  exact fin hR ⟨rfl,HM1.out⟩
 have h1i:¬ (100:Int) < (name.length:Int):=by omega
 by_cases h2:100 < text.length
 ·have h2i:(100:Int) < (text.length:Int):=by omega
  go_wp2_with fail
  exact fin hR ⟨rfl,HM1.out⟩
 have h2i:¬ (100:Int) < (text.length:Int):=by omega
 by_cases h3:300 < man.length
 ·have h3i:(300:Int) < (man.length:Int):=by omega
  go_wp2_with fail
  exact fin hR ⟨rfl,HM1.out⟩
 have h3i:¬ (300:Int) < (man.length:Int):=by omega
 have HN100:=zh (show name.length<=100 by omega);have HT100:=zh (show text.length<=100 by omega);have HM300:=zh (show man.length<=300 by omega);clear h1 h2 h3;go_upto_region 6 with fail
 obtain ⟨g7,hg7⟩:∃ g,g=w1.heap.size:=⟨_,rfl⟩
 rw [<- hg7];generalize hw2:World.alloc w1 _=w2;have hm2:Mod No w1 w2:=by rw [<- hw2];exact (Mod.refl No w1).alloc _
 have hc7:w2.heap[g7]? = some (.cells #[.int .i64 0,.string N1,.string T1] 24 (0,0)):=by rw [<- hw2,hg7];exact heap_alloc_new w1 _
 have HM2:=zh (HM1.out.trans hm2);have HC7:=zh hc7;have HRG:=zh (show w2.rangeAt g7 0 [.int .i64 0,.string N1,.string T1] from fun u x hx=>by rw [Nat.zero_add];exact cell_ofA hc7 (by rw [List.getElem?_toArray];exact hx));have HPW:=zh (HP1.out w2 HM2.out HN100.out HT100.out);clear hw2 hm2 hc7 hg7 h1i h2i h3i z1 z2 HP1;go_wp2_with (refine wpList_load_mid rfl 24 _ rfl g7 0 rfl [.int .i64 0,.string N1,.string T1] _ HRG.out underlying24 rfl (by kernel_rfl) ?_)
 with_reducible refine HPW.out.mono ?_
 rintro e w3 ⟨hres,hm3⟩;obtain ⟨pm,pl,pa,pn,pc,b1,b2,b3,er,rfl,hcase⟩:=pni_open hres;have HM3:=zh (HM2.out.trans hm3);have HC73:=zh (hm3.keep HC7.out (fun f=>f));have HCASE:=zh hcase;clear hres hm3 HPW HRG hcase HC7;go_upto_region 7 with fail
 obtain ⟨g8,hg8⟩:∃ g,g=w3.heap.size:=⟨_,rfl⟩
 rw [<- hg8];generalize hw4:World.alloc w3 _=w4;have hm4:Mod No w3 w4:=by rw [<- hw4];exact (Mod.refl No w3).alloc _
 have HC8:=zh (show w4.heap[g8]? = some (.cells #[.string pm,.string pl,.slice pa pn pc,.bool b1,.bool b2,.bool b3] 27 (0,0)) by rw [<- hw4,hg8];exact heap_alloc_new w3 _);have HM4:=zh (HM3.out.trans hm4);have HM34:=zh hm4;have HC74:=hm4.keep HC73.out (fun f=>f);have HRG:=zh (show w4.rangeAt g7 0 [.int .i64 0,.string N1,.string T1] from fun u x hx=>by rw [Nat.zero_add];exact cell_ofA HC74 (by rw [List.getElem?_toArray];exact hx));have HPW:=zh (HP2.out w4 HM4.out HN100.out HT100.out HM300.out);rw [<- HX.out] at HPW;clear hw4 hm4 HC74 hg8 HP2 HC73;go_wp2_with (refine wpList_load_mid rfl 24 _ rfl g7 0 rfl [.int .i64 0,.string N1,.string T1] _ HRG.out underlying24 rfl (by kernel_rfl) ?_)
 with_reducible refine HPW.out.mono ?_
 rintro e w5 ⟨⟨fb,rfl,hfb⟩,hm5⟩;have HM5:=zh (HM4.out.trans hm5);have HM35:=zh (HM34.out.trans hm5);have HC85:=zh (hm5.keep HC8.out (fun f=>f));have HFB:=zh hfb;unfold planZ faultV;clear hm5 hfb HPW HRG HC8 HX z3 HM34;go_upto_region 8 with fail
 generalize hw6:World.alloc w5 _=w6;have hm6:Mod No w5 w6:=by rw [<- hw6];exact (Mod.refl No w5).alloc _
 have HM6:=zh (HM5.out.trans hm6);have HM36:=zh (HM35.out.trans hm6);have HC86:=zh (hm6.keep HC85.out (fun f=>f));have HCO:=zh (code_fault 81 fb ⟨#[112,108,97,110]⟩ N1 w6 (HER.out.keep HM6.out (fun f=>f)) (by rw [HN1.out];exact hm6.keep HFB.out (fun f=>f)));unfold faultV at HCO;clear hw6 hm6 HFB HC85 HM35 HM5;go_wp2_with fail
 with_reducible refine HCO.out.mono ?_
 rintro e w7 ⟨rfl,hm7⟩;have HM7:=zh (HM6.out.trans hm7);have HM37:=zh (HM36.out.trans hm7);have HC87:=zh (hm7.keep HC86.out (fun f=>f));have HVW:=zh (HVO.out w7 HT100.out);clear hm7 HCO HM6 HM36 HC86 HVO;go_wp2_with fail
 with_reducible refine HVW.out.mono ?_
 rintro e w8 ⟨⟨v,pv,cc,rfl,hsl,hcc⟩,hm8⟩;obtain ⟨va,vc,rfl⟩:=hsl.len;have HCC:=zh hcc;have HSL:=zh hsl;have HM8:=zh (HM7.out.trans hm8);have HM38:=zh (HM37.out.trans hm8);have HC88:=zh (hm8.keep HC87.out (fun f=>f));clear hm8 hcc hsl HVW HM7 HM37 HC87;go_upto_region 11 with fail
 obtain ⟨gv,hgv⟩:∃ g,g=w8.heap.size:=⟨_,rfl⟩
 rw [<- hgv];generalize hw9:World.alloc w8 _=w9;have hm9:Mod No w8 w9:=by rw [<- hw9];exact (Mod.refl No w8).alloc _
 have HV9:=zh (show w9.heap[gv]? = some (.cells #[.int .i64 v.ma,.int .i64 v.mi,.int .i64 v.pa,.slice va v.pre.length vc] 40 (0,0)) by rw [<- hw9,hgv];exact heap_alloc_new w8 _);have HM9:=zh (HM8.out.trans hm9);have HM39:=zh (HM38.out.trans hm9);have HC89:=zh (hm9.keep HC88.out (fun f=>f));have HSL9:=zh (HSL.out.kn hm9);have HRW:=zh (HRN.out w9 HN100.out);clear hw9 hm9 hgv HSL HM8 HM38 HC88 HRN;go_wp2_with fail
 with_reducible refine HRW.out.mono ?_
 rintro e wX ⟨rfl,hwX⟩;rw [hwX];clear hwX wX HRW;cases hnb:nameB name with
 | false =>
  obtain ⟨fb2,her,hf2⟩:∃ fb,er=faultV fb/\w3.heap[fb]? = some (.cells #[.string ⟨#[112,108,97,110]⟩,strV name,errnoV 62] 165 (0,0)):=by
   rcases HCASE.out with ⟨-,h⟩ | ⟨h,-⟩ | ⟨h,-⟩
   ·exact h
   ·rw [hnb] at h;cases h
   ·rw [hnb] at h;cases h
  subst her;have HCO:=zh (code_fault 62 fb2 ⟨#[112,108,97,110]⟩ N1 w9 (HER.out.keep HM9.out (fun f=>f)) (by rw [HN1.out];exact HM39.out.keep hf2 (fun f=>f)));clear hf2 HCASE;unfold faultV at HCO ⊢;go_wp2_with fail
  with_reducible refine HCO.out.mono ?_
  rintro e w10 ⟨rfl,hm10⟩;have HM10:=zh (HM9.out.trans hm10);clear hm10 HCO;go_wp2_with fail
  exact fin hR ⟨rfl,HM10.out⟩
 | true =>
  rcases HCC.out with ⟨rfl,hv⟩ | ⟨rfl,hv⟩
  ·obtain ⟨rfl,rfl,rfl,rfl,rfl⟩:er=.nilIface/\pm=⟨(mfText ⟨name,v,[]⟩).toArray⟩/\pl=⟨#[108,111,99,107,32,49,10]⟩/\pn=0/\b1=true:=by
    rcases HCASE.out with ⟨h,-⟩ | ⟨-,h,-⟩ | ⟨-,v',h,h2⟩
    ·rw [hnb] at h;cases h
    ·rw [hv] at h;cases h
    ·rw [hv] at h;obtain rfl:=Option.some.inj h;exact h2
   have HMW:=zh (HMF.out w9 v hnb hv HT100.out HN100.out);clear HCASE HCC HMF hv;generalize (⟨(mfText ⟨name,v,[]⟩).toArray⟩:ByteArray)=MT at *;have p0:=cell_ofA HC89.out (i:=0) rfl;go_wp2_with fail
   with_reducible refine HMW.out.mono ?_
   rintro e w10 ⟨⟨mv,rfl,hat⟩,hm10⟩;have HM10:=zh (HM9.out.trans hm10);have HC810:=zh (hm10.keep HC89.out (fun f=>f));have HV10:=zh (hm10.keep HV9.out (fun f=>f));have HSL10:=zh (HSL9.out.kn hm10);obtain ⟨qa,qc,na,nc,rfl,hpre,hnds⟩:=hat;have HPRE:=zh hpre;clear hm10 HMW p0 hpre hnds HC89 HV9 HSL9 HM9 HM39;unfold mftCs strV;rw [<- HN1.out];dsimp only [List.length_nil];go_upto_region 16 with fail
   obtain ⟨gm,hgm⟩:∃ g,g=w10.heap.size:=⟨_,rfl⟩
   rw [<- hgm];generalize hw11:World.alloc w10 _=w11;have hm11:Mod No w10 w11:=by rw [<- hw11];exact (Mod.refl No w10).alloc _
   have hg11:w11.heap[gm]? = some (.cells #[.string N1,.int .i64 v.ma,.int .i64 v.mi,.int .i64 v.pa,.slice qa v.pre.length qc,.slice na 0 nc] 46 (0,0)):=by rw [<- hw11,hgm];exact heap_alloc_new w10 _
   have HM11:=zh (HM10.out.trans hm11);have m0:=cell_ofA hg11 (i:=0) rfl;have m1:=cell_ofA hg11 (i:=1) rfl;have m2:=cell_ofA hg11 (i:=2) rfl;have m3:=cell_ofA hg11 (i:=3) rfl;have m4:=cell_ofA hg11 (i:=4) rfl;have m5:=cell_ofA hg11 (i:=5) rfl;obtain ⟨⟨v0,v1,v2,v3⟩,-⟩:=cells4 (hm11.keep HV10.out (fun f=>f));have hc11:=hm11.keep HC810.out (fun f=>f);have p1:=cell_ofA hc11 (i:=1) rfl;have p2:=cell_ofA hc11 (i:=2) rfl;have p3:=cell_ofA hc11 (i:=3) rfl;have HVE:=zh (version_eq v (.slice qa v.pre.length qc) (.slice va v.pre.length vc) w11 (HPRE.out.kn hm11) (HSL10.out.kn hm11));have HC11:=zh hc11;unfold verV at HVE;clear hw11 hm11 hg11 hgm hc11 HPRE HSL10 HV10 HC810;generalize v.pre.length=vl at *;generalize v.ma=xa at *;generalize v.mi=xi at *;generalize v.pa=xp at *;go_wp2_with fail
   with_reducible refine HVE.out.mono ?_
   rintro e w12 ⟨rfl,hm12⟩;have HM12:=zh (HM11.out.trans hm12);have m5:=hm12.cell m5 (fun f=>f);have p1:=hm12.cell p1 (fun f=>f);have p2:=hm12.cell p2 (fun f=>f);have p3:=hm12.cell p3 (fun f=>f);clear hm12 HVE m0 m1 m2 m3 m4 v0 v1 v2 v3;go_wp2_with fail
   exact fin hR ⟨rfl,HM12.out⟩
  ·obtain ⟨fb2,her,hf2⟩:∃ fb,er=faultV fb/\w3.heap[fb]? = some (.cells #[.string ⟨#[112,108,97,110]⟩,strV name,errnoV 60] 165 (0,0)):=by
    rcases HCASE.out with ⟨h,-⟩ | ⟨-,-,h⟩ | ⟨-,v',h,-⟩
    ·rw [hnb] at h;cases h
    ·exact h
    ·rw [hv] at h;cases h
   subst her;have HCO:=zh (code_fault 60 fb2 ⟨#[112,108,97,110]⟩ N1 w9 (HER.out.keep HM9.out (fun f=>f)) (by rw [HN1.out];exact HM39.out.keep hf2 (fun f=>f)));clear hf2 HCASE HCC hv;unfold faultV at HCO ⊢;go_wp2_with fail
   with_reducible refine HCO.out.mono ?_
   rintro e w10 ⟨rfl,hm10⟩;have HM10:=zh (HM9.out.trans hm10);clear hm10 HCO;go_wp2_with fail
   exact fin hR ⟨rfl,HM10.out⟩
end Go.Proofs.YticfcmdjplmaeaaGreatDoor
