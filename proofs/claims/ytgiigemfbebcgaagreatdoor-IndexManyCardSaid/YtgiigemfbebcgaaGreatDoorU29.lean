/-
  Layers 0 to 14: helps of the laws of indexes. No statement is proved here; no condition.
-/
import Derived.Test.YtgiigemfbebcgaaGreatDoorU28
namespace Go.Proofs.YtgiigemfbebcgaaGreatDoor
open _root_.Go.Proofs.Tryz
open Go.RowKit
theorem load_key {w:World} {b:Nat} {S:List UInt8} (hS:S.length=32) (h:w.heap[b]? = some (.cells (bv S).toArray 43 (0,0))):(loadVar 43 ⟨b,0,none⟩).run prog w=.ok (keyV S) w :=
 run_loadVar_row (P:=prog) w b 43 43 (bv S).toArray (0,0) _ h underlying43 rfl (key_size hS)
theorem row_cells (nm:ByteArray) (a b c:Int) (pa:Option Addr) (pn pc:Nat) (S:List UInt8) (n:Int):(rowCs nm a b c (.slice pa pn pc) S n).toArray.all (·.oneCell')=true:=by
 simp [rowCs,bv,Value.oneCell']
theorem load_row {w:World} {b:Nat} {cs:Array Value} (hl:cs.size=39) (h:w.heap[b]? = some (.cells cs 46 (0,0))):(loadVar 46 ⟨b,0,none⟩).run prog w=.ok (.agg cs) w :=
 run_loadVar_row (P:=prog) w b 46 46 cs (0,0) _ h underlying46 rfl (by rw [hl];exact row_info)
theorem verparse_u (l:List UInt8) (hl:l.length<=999999) (w:World) (hg:Gl w) :
  Calls prog 106 #[strV l] w fun e w'=>(∃ (v:Ver) (pv:Value) (c:Int),e=.returned (.tuple #[verV v pv,.int .i64 c])/\Small v/\Sl w' (Old w) 9 pv v.pre.length (strs v.pre)/\((c=0/\verOf l=some v)\/(c=60/\verOf l=none)))/\Mod No w w' :=
 (verparse_any l (by omega) w hg).mono fun e w' ⟨h,hm⟩=>⟨by
  rcases h with ⟨h1,h2⟩ | ⟨v,pv,h1,h2,h3⟩
  ·exact ⟨_,_,60,h2,small_zero,.inl ⟨rfl,rfl,rfl⟩,.inr ⟨rfl,h1⟩⟩
  ·exact ⟨v,pv,0,h2,verOf_small hl h1,h3,.inl ⟨rfl,h1⟩⟩,hm⟩
theorem shaparse_u (l:List UInt8) (w:World) :
  Calls prog 107 #[strV l] w fun e w'=>(∃ (S:List UInt8) (ok:Bool),e=.returned (.tuple #[keyV S,.bool ok])/\S.length=32/\(if ok then sumL l=some S else sumL l=none))/\Mod No w w':=by
 cases hs:sumL l with
 | none=>exact (parse_bad l hs w).mono fun e w' ⟨h,hm⟩=>⟨⟨_,false,h,by simp,rfl⟩,hm⟩
 | some S =>
  obtain ⟨h1,h2⟩:=sum_of hs
  subst h2
  exact (parse_any S h1 w).mono fun e w' ⟨h,hm⟩=>⟨⟨S,true,h,h1,rfl⟩,hm⟩
set_option maxRecDepth 100000 in
set_option maxHeartbeats 8000000 in
theorem row_any (l:List UInt8) (hl:l.length<=100000) (w:World) (hgl:Gl w) :
  Calls prog 81 #[strV l] w fun e w'=>RowRes w w' l e/\Mod No w w':=by
 refine calls_hide fun R hR=>?_
 have HSP:=zh (split_any 32 l (by omega))
 have HSM:=zh (splitC_mem_le 32 l)
 have HNO:=zh (rowLine_len (s:=l))
 have HFI:=zh (fun p a b c d=>rowLine_five (s:=l) (p:=p) (a:=a) (b:=b) (c:=c) (d:=d))
 have HG:=zh hgl
 obtain ⟨zs,hzs⟩:∃ zs,zs=rowCs ⟨#[]⟩ 0 0 0 (.slice none 0 0) (List.replicate 32 0) 0:=⟨_,rfl⟩
 have HZS:=zh hzs
 have HZL:=zh (show zs.toArray.size=39 by rw [hzs];exact rowCs_length (by simp) _ _ _ _ _ _)
 clear hgl hzs
 go_enter func81,ntmps81
 go_upto_region 1 with fail
 obtain ⟨rb,hrb⟩:∃ g,g=w.heap.size:=⟨_,rfl⟩
 rw [<- hrb]
 generalize hw1:World.alloc w _=w1
 have HR1:=zh (show w1.heap[rb]? = some (.cells zs.toArray 46 (0,0)) by rw [<- hw1,hrb,HZS.out];exact heap_alloc_new w _)
 have HM1:=zh (show Mod No w w1 by rw [<- hw1];exact (Mod.refl No w).alloc _)
 have HRB:=zh hrb
 clear hw1 hrb
 go_wp2_with fail
 with_reducible refine (HSP.out _ (HG.out.stay HM1.out (fun f=>f))).mono ?_
 rintro e w2 ⟨sv,rfl,hown,hm2⟩
 have HM2:=zh (HM1.out.trans hm2)
 have HR2:=zh (hm2.keep HR1.out (fun f=>f))
 have HS2:=zh (Sl.of_own (X:=fun k=>k=rb) hown (fun k hk e=>by have:=lt_of_heap HR1.out;omega))
 clear hm2 HR1 HM1 hown HSP
 obtain ⟨sa,sc,rfl⟩:=HS2.out.len
 have hsm:=HSM.out
 have hno:=HNO.out
 have hfi:=HFI.out
 clear HSM HNO HFI
 generalize splitC 32 l=ws at *
 by_cases h5:ws.length=5
 ·obtain ⟨pA,pB,pC,pD,pE,rfl⟩:∃ a b c d e,ws=[a,b,c,d,e]:=by
   match ws,h5 with
   | [a,b,c,d,e],_=>exact ⟨a,b,c,d,e,rfl⟩
  have HL:=zh (hfi pA pB pC pD pE rfl)
  have hlB:=hsm pB (by simp)
  have hlC:=hsm pC (by simp)
  have hlE:=hsm pE (by simp)
  clear hsm hno hfi h5
  have e5:[pA,pB,pC,pD,pE].length=5:=rfl
  rw [e5] at HS2
  rw [e5]
  clear e5
  obtain ⟨sb,so,sc',hsv,_,_,hnx⟩:=HS2.out.shape (by decide)
  cases hsv
  have HNS:=zh (show sb ≠ rb from hnx)
  have ca:=HS2.out.cellN (i:=0) (by simp)
  have cb:=HS2.out.cellN (i:=1) (by simp)
  have cc:=HS2.out.cellN (i:=2) (by simp)
  have cd:=HS2.out.cellN (i:=3) (by simp)
  have ce:=HS2.out.cellN (i:=4) (by simp)
  have c0:w2.cell? ⟨sb,so,none⟩=some (strV pA):=ca
  have HC1:=zh (show w2.cell? ⟨sb,so+1,none⟩=some (strV pB) from cb)
  have HC2:=zh (show w2.cell? ⟨sb,so+2,none⟩=some (strV pC) from cc)
  have HC3:=zh (show w2.cell? ⟨sb,so+3,none⟩=some (strV pD) from cd)
  have HC4:=zh (show w2.cell? ⟨sb,so+4,none⟩=some (strV pE) from ce)
  clear ca cb cc cd ce hnx HS2
  have hT:=str_list pA
  have HNM:=zh (name_any pB (by omega))
  have HVP:=zh (verparse_u pC (by omega))
  have HKP:=zh (shaparse_u pD)
  have HSZ:=zh (size_any pE (by omega))
  obtain ⟨A,hA⟩:∃ A:ByteArray,A=⟨pB.toArray⟩:=⟨_,rfl⟩
  have HA:=zh hA
  unfold strV at *
  rw [<- hA] at HC1 HNM
  clear hA
  generalize (⟨pA.toArray⟩:ByteArray)=A0 at *
  generalize (⟨pC.toArray⟩:ByteArray)=A2 at *
  generalize (⟨pD.toArray⟩:ByteArray)=A3 at *
  generalize (⟨pE.toArray⟩:ByteArray)=A4 at *
  have HA1:=HC1.out
  by_cases hp:pA=packT
  ·subst hp
   rw [if_pos rfl] at HL
   have hpk:A0.toList=[112,97,99,107]:=hT
   clear hT
   go_wp2_with fail
   with_reducible refine (HNM.out _).mono ?_
   rintro e w9 ⟨rfl,h9⟩
   rw [h9]
   clear h9 w9
   cases hnb:nameB pB with
   | false =>
    have HN:=zh (show rowLine l=none by rw [HL.out];unfold rowL;rw [hnb];rfl)
    clear hnb
    go_wp2_with (refine wpList_store_row rfl 46 _ _ rfl rb zs.toArray rfl (by rw [HZS.out];rfl) 46 _ HR2.out (by rw [HZL.out];exact row_info) rfl (by rw [HZS.out];exact row_cells _ _ _ _ _ _ _ _ _) ?_)
    have HRz:=zh (setRow_heap w2 rb zs.toArray zs.toArray 46 (0,0) HR2.out)
    have hlz:=load_row HZL.out HRz.out
    have HMz:=zh (HM2.out.setRow (g:=rb) (fun h=>by have:=HRB.out;omega) zs.toArray)
    exact bodyPost_ret (v:=.tuple #[.agg zs.toArray,.bool false]) (by simp [results,results81,asAddr,hlz]) rfl (fin hR ⟨⟨⟨⟨[],⟨0,0,0,[]⟩,List.replicate 32 0,0,[]⟩,.slice none 0 0,.slice none 0 0⟩,false,(by rw [HZS.out];rfl),(by simp),small_zero,.inl ⟨rfl,rfl,rfl⟩,rfl,rfl,HN.out⟩,HMz.out⟩)
   | true =>
    have HL2:=zh (show rowLine l=(verOf pC).bind fun v=>(sumL pD).bind fun k=>(sizeL pE).map fun n=>⟨pB,v,k,n,[]⟩ by rw [HL.out];unfold rowL;rw [if_pos hnb])
    clear hnb HL HNM
    have hc2:=HC2.out
    go_wp2_with fail
    with_reducible refine (HVP.out _ (HG.out.stay HM2.out (fun f=>f))).mono ?_
    rintro e w3 ⟨⟨⟨va,vi,vp,pr⟩,pv,vc,rfl,hsmall,hpv,hver⟩,hm3⟩
    have HSL:=zh hsmall
    have HVE:=zh hver
    obtain ⟨pa,pc,rfl⟩:=hpv.len
    obtain ⟨pn,hpn⟩:∃ n,n=pr.length:=⟨_,rfl⟩
    have HP3:=zh (show Sl w3 (Old w) 9 (.slice pa pn pc) pr.length (strs pr) by rw [hpn];exact hpv.shrink (fun k hk ho=>Nat.lt_of_lt_of_le ho HM2.out.size))
    have HM3:=zh (HM2.out.trans hm3)
    have HR3:=zh (hm3.keep HR2.out (fun f=>f))
    have HC1b:=zh (hm3.cell HC1.out (fun f=>f))
    have HC3b:=zh (hm3.cell HC3.out (fun f=>f))
    have HC4b:=zh (hm3.cell HC4.out (fun f=>f))
    unfold verV
    dsimp only at *
    rw [<- hpn]
    clear hpn hsmall hver hpv hm3 HM2 HR2 HC1 HC2 HC3 HC4 hc2 c0 HA1 HVP
    go_upto_region 5 with fail
    obtain ⟨vb,hvb⟩:∃ g,g=w3.heap.size:=⟨_,rfl⟩
    rw [<- hvb]
    generalize hw3a:World.alloc w3 _=w3a
    have HV3:=zh (show w3a.heap[vb]? = some (.cells #[.int .i64 va,.int .i64 vi,.int .i64 vp,.slice pa pn pc] 40 (0,0)) by rw [<- hw3a,hvb];exact heap_alloc_new w3 _)
    have hm3a:Mod No w3 w3a:=by rw [<- hw3a];exact (Mod.refl No w3).alloc _
    have HM3a:=zh (HM3.out.trans hm3a)
    have HP3a:=zh (HP3.out.kn hm3a)
    have HR3a:=zh (hm3a.keep HR3.out (fun f=>f))
    have HC1a:=zh (hm3a.cell HC1b.out (fun f=>f))
    have hc3:=hm3a.cell HC3b.out (fun f=>f)
    have HC4a:=zh (hm3a.cell HC4b.out (fun f=>f))
    have HNV:=zh (show vb ≠ rb by have:=lt_of_heap HR3.out;omega)
    clear hw3a hm3a hvb HM3 HP3 HR3 HC1b HC3b HC4b
    go_wp2_with fail
    with_reducible refine (HKP.out _).mono ?_
    rintro e w4a ⟨⟨S,sok,rfl,hS32,hsum⟩,hm4a⟩
    have HS32:=zh hS32
    have HSUM:=zh hsum
    have HM4a:=zh (HM3a.out.trans hm4a)
    have HP4a:=zh (HP3a.out.kn hm4a)
    have HR4a:=zh (hm4a.keep HR3a.out (fun f=>f))
    have HV4a:=zh (hm4a.keep HV3.out (fun f=>f))
    have HC1c:=zh (hm4a.cell HC1a.out (fun f=>f))
    have HC4c:=zh (hm4a.cell HC4a.out (fun f=>f))
    clear hm4a hS32 hsum HM3a HP3a HR3a HV3 HC1a HC4a hc3 HKP
    go_upto_region 6 with (refine wpList_store_row rfl 43 _ _ rfl w4a.heap.size (bv S).toArray rfl rfl 43 _ (heap_alloc_new w4a _) (key_size HS32.out) (by simp [HS32.out]) (by simp [bv,Value.oneCell']) ?_)
    obtain ⟨kb,hkb⟩:∃ g,g=w4a.heap.size:=⟨_,rfl⟩
    rw [<- hkb]
    generalize hw4:World.setRow _ kb _=w4
    have HK4:=zh (show w4.heap[kb]? = some (.cells (bv S).toArray 43 (0,0)) by rw [<- hw4,hkb];exact setRow_heap _ _ _ _ _ _ (heap_alloc_new w4a _))
    have hm4b:Mod No w4a w4:=by rw [<- hw4,hkb];exact ((Mod.refl No w4a).alloc _).setRow (fun h=>absurd h (by omega)) _
    have HM4:=zh (HM4a.out.trans hm4b)
    have HP4:=zh (HP4a.out.kn hm4b)
    have HR4:=zh (hm4b.keep HR4a.out (fun f=>f))
    have HV4:=zh (hm4b.keep HV4a.out (fun f=>f))
    have HC4:=zh (hm4b.cell HC1c.out (fun f=>f))
    have hc4:=hm4b.cell HC4c.out (fun f=>f)
    have HNK:=zh (show kb ≠ rb by have:=lt_of_heap HR4a.out;omega)
    clear hw4 hm4b hkb HM4a HP4a HR4a HV4a HC1c HC4c
    have HRES:=zh (show ∀ (n:Int) (nok:Bool),(if nok then sizeL pE=some n else sizeL pE=none)->∀ w' ,Sl w' (Old w) 9 (.slice pa pn pc) pr.length (strs pr)->RowRes w w' l (.returned (.tuple #[.agg (rowCs A va vi vp (.slice pa pn pc) S n).toArray,.bool ((vc == 0) && sok && nok)])) from fun n nok hn w' hp=>by
     refine ⟨⟨⟨pB,⟨va,vi,vp,pr⟩,S,n,[]⟩,.slice pa pn pc,.slice none 0 0⟩,(vc == 0) && sok && nok,?_,HS32.out,HSL.out,hp,rfl,rfl,?_⟩
     ·rw [HA.out];rfl
     ·rw [HL2.out]
      have hsum:=HSUM.out
      rcases HVE.out with ⟨rfl,hv⟩ | ⟨rfl,hv⟩
      ·rw [hv]
       cases sok with
       | false=>rw [if_neg (by simp)] at hsum;simp [hsum]
       | true =>
        rw [if_pos rfl] at hsum
        cases nok with
        | false=>rw [if_neg (by simp)] at hn;simp [hsum,hn]
        | true=>rw [if_pos rfl] at hn;simp [hsum,hn]
      ·rw [hv];simp)
    have HVC:=zh (show vc=0\/vc=60 from HVE.out.elim (fun h=>.inl h.1) (fun h=>.inr h.1))
    clear HSUM HVE HSL HL2 HA
    go_wp2_with fail
    with_reducible refine (HSZ.out _).mono ?_
    rintro e w5 ⟨⟨n,rfl,hn⟩,hw5⟩
    rw [hw5]
    clear hw5 w5
    have HRES2:=zh (HRES.out n (sizeL pE).isSome (by
     cases hz:sizeL pE with
     | none=>simp
     | some m=>rw [hn m hz];simp))
    clear hn HRES HSZ
    generalize (sizeL pE).isSome=nok at *
    rcases HVC.out with rfl | rfl
    ·have hv1:((0:Int) == 0)=true:=rfl
     rcases sok with _ | _
     ·
      go_upto_region 7 with fail
      obtain ⟨wA,hwA⟩:∃ z,z=w4.drew:=⟨_,rfl⟩
      have hm4A:Mod No w4 wA:=by rw [hwA];exact (Mod.refl No w4).drew
      have HMA:=zh (HM4.out.trans hm4A)
      have HRA:=zh (hm4A.keep HR4.out (fun f=>f))
      have HVA:=zh (hm4A.keep HV4.out (fun f=>f))
      have HKA:=zh (hm4A.keep HK4.out (fun f=>f))
      have HSA:=zh (hm4A.cell HC4.out (fun f=>f))
      have HPA:=zh (HP4.out.kn hm4A)
      have HSM:=zh (show ∀ w',Mod (fun p=>p=rb) wA w'->w'.cell? ⟨sb,so+1,none⟩=some (.string A)/\w'.heap[vb]? = some (.cells #[.int .i64 va,.int .i64 vi,.int .i64 vp,.slice pa pn pc] 40 (0,0))/\w'.heap[kb]? = some (.cells (bv S).toArray 43 (0,0)) from fun w' hm =>
       ⟨hm.cell HSA.out (fun e=>HNS.out e),hm.keep HVA.out (fun e=>HNV.out e),hm.keep HKA.out (fun e=>HNK.out e)⟩)
      have hS0:=HSM.out wA (Mod.refl _ _)
      have HWA:=zh hwA
      clear hwA hm4A HM4 HR4 HV4 HK4 HC4 HP4
      refine wp_region_T (fun w'=>w'.cell? ⟨sb,so+1,none⟩=some (.string A)/\w'.heap[vb]? = some (.cells #[.int .i64 va,.int .i64 vi,.int .i64 vp,.slice pa pn pc] 40 (0,0))/\w'.heap[kb]? = some (.cells (bv S).toArray 43 (0,0))) 99 (by kernel_rfl) ?_
      rw [<- HWA.out]
      clear HWA
      refine yT 0 (some 51) ?_ hS0 ?_ ?_
      rotate_left
      ·(intro w' hSw;obtain ⟨q0,q1,q2⟩:=hSw;go_simp;try with_reducible rfl)
      simp only [Act.put,yB,yC,yD]
      refine yT 1 (some 52) ?_ hS0 ?_ ?_
      rotate_left
      ·(intro w' hSw;obtain ⟨q0,q1,q2⟩:=hSw;go_simp;try with_reducible rfl)
      simp only [Act.put,yB,yC,yD]
      refine yT 2 (some 53) ?_ hS0 ?_ ?_
      rotate_left
      ·(intro w' hSw;obtain ⟨q0,q1,q2⟩:=hSw;go_simp;try with_reducible rfl)
      simp only [Act.put,yB,yC,yD]
      refine yT 3 (some 54) (.agg #[.int .i64 va,.int .i64 vi,.int .i64 vp,.slice pa pn pc]) hS0 ?_ ?_
      ·(intro w' hSw;obtain ⟨q0,q1,q2⟩:=hSw;exact yload (load_ver q1) (.tmp 5) rfl rfl)
      simp only [Act.put,yB,yC,yD]
      refine yT 4 (some 55) (keyV S) hS0 ?_ ?_
      ·(intro w' hSw;obtain ⟨q0,q1,q2⟩:=hSw;exact yload (load_key HS32.out q2) (.tmp 7) rfl rfl)
      simp only [Act.put,yB,yC,yD]
      refine yT 5 (some 56) ?_ hS0 ?_ ?_
      rotate_left
      ·(intro w' hSw;obtain ⟨q0,q1,q2⟩:=hSw;go_simp;try with_reducible rfl)
      simp only [Act.put,yB,yC,yD]
      refine wpAnyT_takeV 6 (some 57) (.agg (rowCs A va vi vp (.slice pa pn pc) S n).toArray) rfl rfl (by kernel_rfl) (fun _ _ _ h=>h) hS0 (Or.inl ⟨by rfl,?_⟩) ?_
      ·(intro w' hSw;obtain ⟨q0,q1,q2⟩:=hSw;exact ybuild _ (by simp only [Array.toList_map,List.map_cons,List.map_nil];exact row_built A va vi vp pa pn pc HS32.out n) rfl)
      simp only [Act.put,yB,yC,yD]
      refine yT 7 (some 58) ?_ hS0 ?_ ?_
      rotate_left
      ·(intro w' hSw;obtain ⟨q0,q1,q2⟩:=hSw;go_simp;try with_reducible rfl)
      simp only [Act.put,yB,yC,yD]
      refine yT 8 (some 59) ?_ hS0 ?_ ?_
      rotate_left
      ·(intro w' hSw;obtain ⟨q0,q1,q2⟩:=hSw;go_simp;try with_reducible rfl)
      simp only [Act.put,yB,yC,yD]
      refine yT 9 (some 60) ?_ hS0 ?_ ?_
      rotate_left
      ·(intro w' hSw;obtain ⟨q0,q1,q2⟩:=hSw;go_simp;try with_reducible rfl)
      simp only [Act.put,yB,yC,yD]
      refine yT 10 (some 61) ?_ hS0 ?_ ?_
      rotate_left
      ·(intro w' hSw;obtain ⟨q0,q1,q2⟩:=hSw;go_simp;try with_reducible rfl)
      simp only [Act.put,yB,yC,yD]
      refine yT 11 (some 62) ?_ hS0 ?_ ?_
      rotate_left
      ·(intro w' hSw;obtain ⟨q0,q1,q2⟩:=hSw;go_simp;try with_reducible rfl)
      simp only [Act.put,yB,yC,yD]
      refine yT 12 (some 63) ?_ hS0 ?_ ?_
      rotate_left
      ·(intro w' hSw;obtain ⟨q0,q1,q2⟩:=hSw;go_simp;try with_reducible rfl)
      simp only [Act.put,yB,yC,yD]
      refine wpAnyT_takeV 13 (some 64) undef rfl rfl (by kernel_rfl) (fun _ _ _ h=>h) hS0 (Or.inr ⟨by rfl,rfl⟩) ?_
      simp only [Act.put,yB,yC,yD]
      refine yT 14 (some 65) ?_ hS0 ?_ ?_
      rotate_left
      ·(intro w' hSw;obtain ⟨q0,q1,q2⟩:=hSw;go_simp;try with_reducible rfl)
      simp only [Act.put,yB,yC,yD]
      refine wpAnyT_one 15 rfl (by kernel_rfl) rfl ?_
      intro K hK
      refine wp_store_row 46 (.tmp 2) (.tmp 57) rfl rb (rowCs A va vi vp (.slice pa pn pc) S n).toArray rfl rfl 46 zs.toArray HRA.out (by rw [rowCs_length HS32.out];exact row_info) (by rw [rowCs_length HS32.out];exact HZL.out) (row_cells _ _ _ _ _ _ _ _ _) ?_
      show K _ _
      have hS1:=HSM.out _ (Mod.setRow (S:=fun p=>p=rb) (Mod.refl _ wA) (fun _=>rfl) (rowCs A va vi vp (.slice pa pn pc) S n).toArray)
      refine hK.out _ _ (fun _=>hS1) ?_
      clear hK K
      refine yT 16 (some 3) ?_ hS1 ?_ ?_
      rotate_left
      ·(intro w' hSw;obtain ⟨q0,q1,q2⟩:=hSw;go_simp;try with_reducible rfl)
      simp only [Act.put]
      refine wpAnyT_done (by kernel_rfl) ?_ _
      go_wp2_with fail
      have HRz:=zh (setRow_heap wA rb zs.toArray (rowCs A va vi vp (.slice pa pn pc) S n).toArray 46 (0,0) HRA.out)
      have hlz:=load_row (rowCs_length HS32.out _ _ _ _ _ _) HRz.out
      have HMz:=zh (HMA.out.setRow (g:=rb) (fun h=>by have:=HRB.out;omega) (rowCs A va vi vp (.slice pa pn pc) S n).toArray)
      have HPz:=zh (Sl.keep (S:=fun p=>p=rb) HPA.out (Mod.setRow (S:=fun p=>p=rb) (Mod.refl _ wA) (fun _=>rfl) (rowCs A va vi vp (.slice pa pn pc) S n).toArray) (fun k cur fz e _ hc=>by rw [show k=rb from e,HRA.out] at hc;cases hc))
      exact bodyPost_ret (v:=.tuple #[.agg (rowCs A va vi vp (.slice pa pn pc) S n).toArray,.bool false]) (by simp [results,results81,asAddr,hlz]) rfl (fin hR ⟨HRES2.out _ HPz.out,HMz.out⟩)
     ·
      go_upto_region 7 with fail
      obtain ⟨wA,hwA⟩:∃ z,z=w4.drew:=⟨_,rfl⟩
      have hm4A:Mod No w4 wA:=by rw [hwA];exact (Mod.refl No w4).drew
      have HMA:=zh (HM4.out.trans hm4A)
      have HRA:=zh (hm4A.keep HR4.out (fun f=>f))
      have HVA:=zh (hm4A.keep HV4.out (fun f=>f))
      have HKA:=zh (hm4A.keep HK4.out (fun f=>f))
      have HSA:=zh (hm4A.cell HC4.out (fun f=>f))
      have HPA:=zh (HP4.out.kn hm4A)
      have HSM:=zh (show ∀ w',Mod (fun p=>p=rb) wA w'->w'.cell? ⟨sb,so+1,none⟩=some (.string A)/\w'.heap[vb]? = some (.cells #[.int .i64 va,.int .i64 vi,.int .i64 vp,.slice pa pn pc] 40 (0,0))/\w'.heap[kb]? = some (.cells (bv S).toArray 43 (0,0)) from fun w' hm =>
       ⟨hm.cell HSA.out (fun e=>HNS.out e),hm.keep HVA.out (fun e=>HNV.out e),hm.keep HKA.out (fun e=>HNK.out e)⟩)
      have hS0:=HSM.out wA (Mod.refl _ _)
      have HWA:=zh hwA
      clear hwA hm4A HM4 HR4 HV4 HK4 HC4 HP4
      refine wp_region_T (fun w'=>w'.cell? ⟨sb,so+1,none⟩=some (.string A)/\w'.heap[vb]? = some (.cells #[.int .i64 va,.int .i64 vi,.int .i64 vp,.slice pa pn pc] 40 (0,0))/\w'.heap[kb]? = some (.cells (bv S).toArray 43 (0,0))) 99 (by kernel_rfl) ?_
      rw [<- HWA.out]
      clear HWA
      refine yT 0 (some 51) ?_ hS0 ?_ ?_
      rotate_left
      ·(intro w' hSw;obtain ⟨q0,q1,q2⟩:=hSw;go_simp;try with_reducible rfl)
      simp only [Act.put,yB,yC,yD]
      refine yT 1 (some 52) ?_ hS0 ?_ ?_
      rotate_left
      ·(intro w' hSw;obtain ⟨q0,q1,q2⟩:=hSw;go_simp;try with_reducible rfl)
      simp only [Act.put,yB,yC,yD]
      refine yT 2 (some 53) ?_ hS0 ?_ ?_
      rotate_left
      ·(intro w' hSw;obtain ⟨q0,q1,q2⟩:=hSw;go_simp;try with_reducible rfl)
      simp only [Act.put,yB,yC,yD]
      refine yT 3 (some 54) (.agg #[.int .i64 va,.int .i64 vi,.int .i64 vp,.slice pa pn pc]) hS0 ?_ ?_
      ·(intro w' hSw;obtain ⟨q0,q1,q2⟩:=hSw;exact yload (load_ver q1) (.tmp 5) rfl rfl)
      simp only [Act.put,yB,yC,yD]
      refine yT 4 (some 55) (keyV S) hS0 ?_ ?_
      ·(intro w' hSw;obtain ⟨q0,q1,q2⟩:=hSw;exact yload (load_key HS32.out q2) (.tmp 7) rfl rfl)
      simp only [Act.put,yB,yC,yD]
      refine yT 5 (some 56) ?_ hS0 ?_ ?_
      rotate_left
      ·(intro w' hSw;obtain ⟨q0,q1,q2⟩:=hSw;go_simp;try with_reducible rfl)
      simp only [Act.put,yB,yC,yD]
      refine wpAnyT_takeV 6 (some 57) (.agg (rowCs A va vi vp (.slice pa pn pc) S n).toArray) rfl rfl (by kernel_rfl) (fun _ _ _ h=>h) hS0 (Or.inl ⟨by rfl,?_⟩) ?_
      ·(intro w' hSw;obtain ⟨q0,q1,q2⟩:=hSw;exact ybuild _ (by simp only [Array.toList_map,List.map_cons,List.map_nil];exact row_built A va vi vp pa pn pc HS32.out n) rfl)
      simp only [Act.put,yB,yC,yD]
      refine yT 7 (some 58) ?_ hS0 ?_ ?_
      rotate_left
      ·(intro w' hSw;obtain ⟨q0,q1,q2⟩:=hSw;go_simp;try with_reducible rfl)
      simp only [Act.put,yB,yC,yD]
      refine yT 8 (some 59) ?_ hS0 ?_ ?_
      rotate_left
      ·(intro w' hSw;obtain ⟨q0,q1,q2⟩:=hSw;go_simp;try with_reducible rfl)
      simp only [Act.put,yB,yC,yD]
      refine yT 9 (some 60) ?_ hS0 ?_ ?_
      rotate_left
      ·(intro w' hSw;obtain ⟨q0,q1,q2⟩:=hSw;go_simp;try with_reducible rfl)
      simp only [Act.put,yB,yC,yD]
      refine yT 10 (some 61) ?_ hS0 ?_ ?_
      rotate_left
      ·(intro w' hSw;obtain ⟨q0,q1,q2⟩:=hSw;go_simp;try with_reducible rfl)
      simp only [Act.put,yB,yC,yD]
      refine yT 11 (some 62) ?_ hS0 ?_ ?_
      rotate_left
      ·(intro w' hSw;obtain ⟨q0,q1,q2⟩:=hSw;go_simp;try with_reducible rfl)
      simp only [Act.put,yB,yC,yD]
      refine yT 12 (some 63) ?_ hS0 ?_ ?_
      rotate_left
      ·(intro w' hSw;obtain ⟨q0,q1,q2⟩:=hSw;go_simp;try with_reducible rfl)
      simp only [Act.put,yB,yC,yD]
      refine yT 13 (some 64) ?_ hS0 ?_ ?_
      rotate_left
      ·(intro w' hSw;obtain ⟨q0,q1,q2⟩:=hSw;go_simp;try with_reducible rfl)
      simp only [Act.put,yB,yC,yD]
      refine yT 14 (some 65) ?_ hS0 ?_ ?_
      rotate_left
      ·(intro w' hSw;obtain ⟨q0,q1,q2⟩:=hSw;go_simp;try with_reducible rfl)
      simp only [Act.put,yB,yC,yD]
      refine wpAnyT_one 15 rfl (by kernel_rfl) rfl ?_
      intro K hK
      refine wp_store_row 46 (.tmp 2) (.tmp 57) rfl rb (rowCs A va vi vp (.slice pa pn pc) S n).toArray rfl rfl 46 zs.toArray HRA.out (by rw [rowCs_length HS32.out];exact row_info) (by rw [rowCs_length HS32.out];exact HZL.out) (row_cells _ _ _ _ _ _ _ _ _) ?_
      show K _ _
      have hS1:=HSM.out _ (Mod.setRow (S:=fun p=>p=rb) (Mod.refl _ wA) (fun _=>rfl) (rowCs A va vi vp (.slice pa pn pc) S n).toArray)
      refine hK.out _ _ (fun _=>hS1) ?_
      clear hK K
      refine yT 16 (some 3) ?_ hS1 ?_ ?_
      rotate_left
      ·(intro w' hSw;obtain ⟨q0,q1,q2⟩:=hSw;go_simp;try with_reducible rfl)
      simp only [Act.put]
      refine wpAnyT_done (by kernel_rfl) ?_ _
      go_wp2_with fail
      have HRz:=zh (setRow_heap wA rb zs.toArray (rowCs A va vi vp (.slice pa pn pc) S n).toArray 46 (0,0) HRA.out)
      have hlz:=load_row (rowCs_length HS32.out _ _ _ _ _ _) HRz.out
      have HMz:=zh (HMA.out.setRow (g:=rb) (fun h=>by have:=HRB.out;omega) (rowCs A va vi vp (.slice pa pn pc) S n).toArray)
      have HPz:=zh (Sl.keep (S:=fun p=>p=rb) HPA.out (Mod.setRow (S:=fun p=>p=rb) (Mod.refl _ wA) (fun _=>rfl) (rowCs A va vi vp (.slice pa pn pc) S n).toArray) (fun k cur fz e _ hc=>by rw [show k=rb from e,HRA.out] at hc;cases hc))
      exact bodyPost_ret (v:=.tuple #[.agg (rowCs A va vi vp (.slice pa pn pc) S n).toArray,.bool nok]) (by simp [results,results81,asAddr,hlz]) rfl (fin hR ⟨HRES2.out _ HPz.out,HMz.out⟩)
    ·have hv1:((60:Int) == 0)=false:=rfl
     go_upto_region 7 with fail
     obtain ⟨wA,hwA⟩:∃ z,z=w4.drew:=⟨_,rfl⟩
     have hm4A:Mod No w4 wA:=by rw [hwA];exact (Mod.refl No w4).drew
     have HMA:=zh (HM4.out.trans hm4A)
     have HRA:=zh (hm4A.keep HR4.out (fun f=>f))
     have HVA:=zh (hm4A.keep HV4.out (fun f=>f))
     have HKA:=zh (hm4A.keep HK4.out (fun f=>f))
     have HSA:=zh (hm4A.cell HC4.out (fun f=>f))
     have HPA:=zh (HP4.out.kn hm4A)
     have HSM:=zh (show ∀ w',Mod (fun p=>p=rb) wA w'->w'.cell? ⟨sb,so+1,none⟩=some (.string A)/\w'.heap[vb]? = some (.cells #[.int .i64 va,.int .i64 vi,.int .i64 vp,.slice pa pn pc] 40 (0,0))/\w'.heap[kb]? = some (.cells (bv S).toArray 43 (0,0)) from fun w' hm =>
      ⟨hm.cell HSA.out (fun e=>HNS.out e),hm.keep HVA.out (fun e=>HNV.out e),hm.keep HKA.out (fun e=>HNK.out e)⟩)
     have hS0:=HSM.out wA (Mod.refl _ _)
     have HWA:=zh hwA
     clear hwA hm4A HM4 HR4 HV4 HK4 HC4 HP4
     refine wp_region_T (fun w'=>w'.cell? ⟨sb,so+1,none⟩=some (.string A)/\w'.heap[vb]? = some (.cells #[.int .i64 va,.int .i64 vi,.int .i64 vp,.slice pa pn pc] 40 (0,0))/\w'.heap[kb]? = some (.cells (bv S).toArray 43 (0,0))) 99 (by kernel_rfl) ?_
     rw [<- HWA.out]
     clear HWA
     refine yT 0 (some 51) ?_ hS0 ?_ ?_
     rotate_left
     ·(intro w' hSw;obtain ⟨q0,q1,q2⟩:=hSw;go_simp;try with_reducible rfl)
     simp only [Act.put,yB,yC,yD]
     refine yT 1 (some 52) ?_ hS0 ?_ ?_
     rotate_left
     ·(intro w' hSw;obtain ⟨q0,q1,q2⟩:=hSw;go_simp;try with_reducible rfl)
     simp only [Act.put,yB,yC,yD]
     refine yT 2 (some 53) ?_ hS0 ?_ ?_
     rotate_left
     ·(intro w' hSw;obtain ⟨q0,q1,q2⟩:=hSw;go_simp;try with_reducible rfl)
     simp only [Act.put,yB,yC,yD]
     refine yT 3 (some 54) (.agg #[.int .i64 va,.int .i64 vi,.int .i64 vp,.slice pa pn pc]) hS0 ?_ ?_
     ·(intro w' hSw;obtain ⟨q0,q1,q2⟩:=hSw;exact yload (load_ver q1) (.tmp 5) rfl rfl)
     simp only [Act.put,yB,yC,yD]
     refine yT 4 (some 55) (keyV S) hS0 ?_ ?_
     ·(intro w' hSw;obtain ⟨q0,q1,q2⟩:=hSw;exact yload (load_key HS32.out q2) (.tmp 7) rfl rfl)
     simp only [Act.put,yB,yC,yD]
     refine yT 5 (some 56) ?_ hS0 ?_ ?_
     rotate_left
     ·(intro w' hSw;obtain ⟨q0,q1,q2⟩:=hSw;go_simp;try with_reducible rfl)
     simp only [Act.put,yB,yC,yD]
     refine wpAnyT_takeV 6 (some 57) (.agg (rowCs A va vi vp (.slice pa pn pc) S n).toArray) rfl rfl (by kernel_rfl) (fun _ _ _ h=>h) hS0 (Or.inl ⟨by rfl,?_⟩) ?_
     ·(intro w' hSw;obtain ⟨q0,q1,q2⟩:=hSw;exact ybuild _ (by simp only [Array.toList_map,List.map_cons,List.map_nil];exact row_built A va vi vp pa pn pc HS32.out n) rfl)
     simp only [Act.put,yB,yC,yD]
     refine yT 7 (some 58) ?_ hS0 ?_ ?_
     rotate_left
     ·(intro w' hSw;obtain ⟨q0,q1,q2⟩:=hSw;go_simp;try with_reducible rfl)
     simp only [Act.put,yB,yC,yD]
     refine yT 8 (some 59) ?_ hS0 ?_ ?_
     rotate_left
     ·(intro w' hSw;obtain ⟨q0,q1,q2⟩:=hSw;go_simp;try with_reducible rfl)
     simp only [Act.put,yB,yC,yD]
     refine yT 9 (some 60) ?_ hS0 ?_ ?_
     rotate_left
     ·(intro w' hSw;obtain ⟨q0,q1,q2⟩:=hSw;go_simp;try with_reducible rfl)
     simp only [Act.put,yB,yC,yD]
     refine wpAnyT_takeV 10 (some 61) undef rfl rfl (by kernel_rfl) (fun _ _ _ h=>h) hS0 (Or.inr ⟨by rfl,rfl⟩) ?_
     simp only [Act.put,yB,yC,yD]
     refine yT 11 (some 62) ?_ hS0 ?_ ?_
     rotate_left
     ·(intro w' hSw;obtain ⟨q0,q1,q2⟩:=hSw;go_simp;try with_reducible rfl)
     simp only [Act.put,yB,yC,yD]
     refine yT 12 (some 63) ?_ hS0 ?_ ?_
     rotate_left
     ·(intro w' hSw;obtain ⟨q0,q1,q2⟩:=hSw;go_simp;try with_reducible rfl)
     simp only [Act.put,yB,yC,yD]
     refine wpAnyT_takeV 13 (some 64) undef rfl rfl (by kernel_rfl) (fun _ _ _ h=>h) hS0 (Or.inr ⟨by rfl,rfl⟩) ?_
     simp only [Act.put,yB,yC,yD]
     refine yT 14 (some 65) ?_ hS0 ?_ ?_
     rotate_left
     ·(intro w' hSw;obtain ⟨q0,q1,q2⟩:=hSw;go_simp;try with_reducible rfl)
     simp only [Act.put,yB,yC,yD]
     refine wpAnyT_one 15 rfl (by kernel_rfl) rfl ?_
     intro K hK
     refine wp_store_row 46 (.tmp 2) (.tmp 57) rfl rb (rowCs A va vi vp (.slice pa pn pc) S n).toArray rfl rfl 46 zs.toArray HRA.out (by rw [rowCs_length HS32.out];exact row_info) (by rw [rowCs_length HS32.out];exact HZL.out) (row_cells _ _ _ _ _ _ _ _ _) ?_
     show K _ _
     have hS1:=HSM.out _ (Mod.setRow (S:=fun p=>p=rb) (Mod.refl _ wA) (fun _=>rfl) (rowCs A va vi vp (.slice pa pn pc) S n).toArray)
     refine hK.out _ _ (fun _=>hS1) ?_
     clear hK K
     refine yT 16 (some 3) ?_ hS1 ?_ ?_
     rotate_left
     ·(intro w' hSw;obtain ⟨q0,q1,q2⟩:=hSw;go_simp;try with_reducible rfl)
     simp only [Act.put]
     refine wpAnyT_done (by kernel_rfl) ?_ _
     go_wp2_with fail
     have HRz:=zh (setRow_heap wA rb zs.toArray (rowCs A va vi vp (.slice pa pn pc) S n).toArray 46 (0,0) HRA.out)
     have hlz:=load_row (rowCs_length HS32.out _ _ _ _ _ _) HRz.out
     have HMz:=zh (HMA.out.setRow (g:=rb) (fun h=>by have:=HRB.out;omega) (rowCs A va vi vp (.slice pa pn pc) S n).toArray)
     have HPz:=zh (Sl.keep (S:=fun p=>p=rb) HPA.out (Mod.setRow (S:=fun p=>p=rb) (Mod.refl _ wA) (fun _=>rfl) (rowCs A va vi vp (.slice pa pn pc) S n).toArray) (fun k cur fz e _ hc=>by rw [show k=rb from e,HRA.out] at hc;cases hc))
     exact bodyPost_ret (v:=.tuple #[.agg (rowCs A va vi vp (.slice pa pn pc) S n).toArray,.bool false]) (by simp [results,results81,asAddr,hlz]) rfl (fin hR ⟨HRES2.out _ HPz.out,HMz.out⟩)
  ·have hpk:(A0.toList == [112,97,99,107])=false:=by rw [hT];simpa [packT] using hp
   have HN:=zh (show rowLine l=none by rw [HL.out,if_neg hp])
   clear hT
   go_wp2_with (refine wpList_store_row rfl 46 _ _ rfl rb zs.toArray rfl (by rw [HZS.out];rfl) 46 _ HR2.out (by rw [HZL.out];exact row_info) rfl (by rw [HZS.out];exact row_cells _ _ _ _ _ _ _ _ _) ?_)
   have HRz:=zh (setRow_heap w2 rb zs.toArray zs.toArray 46 (0,0) HR2.out)
   have hlz:=load_row HZL.out HRz.out
   have HMz:=zh (HM2.out.setRow (g:=rb) (fun h=>by have:=HRB.out;omega) zs.toArray)
   exact bodyPost_ret (v:=.tuple #[.agg zs.toArray,.bool false]) (by simp [results,results81,asAddr,hlz]) rfl (fin hR ⟨⟨⟨⟨[],⟨0,0,0,[]⟩,List.replicate 32 0,0,[]⟩,.slice none 0 0,.slice none 0 0⟩,false,(by rw [HZS.out];rfl),(by simp),small_zero,.inl ⟨rfl,rfl,rfl⟩,rfl,rfl,HN.out⟩,HMz.out⟩)
 ·have HN:=zh (hno h5)
  clear hno hfi hsm
  have hn5:¬ ((ws.length:Int)=5):=by omega
  go_wp2_with (refine wpList_store_row rfl 46 _ _ rfl rb zs.toArray rfl (by rw [HZS.out];rfl) 46 _ HR2.out (by rw [HZL.out];exact row_info) rfl (by rw [HZS.out];exact row_cells _ _ _ _ _ _ _ _ _) ?_)
  have HRz:=zh (setRow_heap w2 rb zs.toArray zs.toArray 46 (0,0) HR2.out)
  have hlz:=load_row HZL.out HRz.out
  have HMz:=zh (HM2.out.setRow (g:=rb) (fun h=>by have:=HRB.out;omega) zs.toArray)
  exact bodyPost_ret (v:=.tuple #[.agg zs.toArray,.bool false]) (by simp [results,results81,asAddr,hlz]) rfl (fin hR ⟨⟨⟨⟨[],⟨0,0,0,[]⟩,List.replicate 32 0,0,[]⟩,.slice none 0 0,.slice none 0 0⟩,false,(by rw [HZS.out];rfl),(by simp),small_zero,.inl ⟨rfl,rfl,rfl⟩,rfl,rfl,HN.out⟩,HMz.out⟩)
end Go.Proofs.YtgiigemfbebcgaaGreatDoor
