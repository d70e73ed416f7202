/-
  Layers 0 to 14: helps of the laws of indexes. No statement is proved here; no condition.
-/
import Derived.Test.YtmppeipgjcjdkaaGreatDoorX36
namespace Go.Proofs.YtmppeipgjcjdkaaGreatDoor
open _root_.Go.Proofs.Tryz
open Go.RowKit Go.Maps
set_option maxRecDepth 100000 in
theorem twrite_any {w:World} {q m:Nat} {g:List UInt8->Nat} {t:Tr} (h:TrM w q m g t (sizeT t:Int)) (s b:List UInt8) (v:Value) (hs:s.length<=1000000) (hv:SvX w No v b.length (bv b)) (hb:b.length<=1000000) (ht:t.length<=10000) (hz:sizeT t<=10000000) (hgl:Gl w) :
  Calls prog 75 #[.pointer (some ⟨q,0,none⟩),strV s,v] w fun e w'=>ChgPost w' q m t (writeT t s b) e/\Mod (fun k=>k=q\/k=m) w w':=by
 refine calls_hide fun R hR=>?_
 have HP:=zh (tput_any h s b v hs hv hb ht hz hgl)
 obtain ⟨va,vc,rfl⟩:=hv.1
 clear h hv
 unfold strV at *
 generalize (⟨s.toArray⟩:ByteArray)=Z at *
 go_enter func75,ntmps75
 go_wp2_with fail
 with_reducible refine HP.out.mono ?_
 rintro e w1 ⟨hp,hm1⟩
 have HM1:=zh hm1
 clear hm1 HP
 unfold ChgPost at hp
 cases hw:writeT t s b with
 | inr c =>
  rw [hw] at hp
  obtain ⟨rfl,hp2⟩:=hp
  have HP2:=zh hp2
  clear hp2
  go_wp2_with fail
  exact fin hR ⟨by rw [hw];exact ⟨rfl,HP2.out⟩,HM1.out⟩
 | inl t' =>
  rw [hw] at hp
  obtain ⟨rfl,hp2⟩:=hp
  have HP2:=zh hp2
  clear hp2
  go_wp2_with fail
  exact fin hR ⟨by rw [hw];exact ⟨rfl,HP2.out⟩,HM1.out⟩
set_option maxRecDepth 100000 in
set_option maxHeartbeats 8000000 in
theorem tmkdir_any {w:World} {q m:Nat} {g:List UInt8->Nat} {t:Tr} (h:TrM w q m g t (sizeT t:Int)) (s:List UInt8) (hs:s.length<=1000000) (ht:t.length<=10000) (hz:sizeT t<=10000000) (hgl:Gl w) :
  Calls prog 74 #[.pointer (some ⟨q,0,none⟩),strV s] w fun e w'=>ChgPost w' q m t (mkdirT t s) e/\Mod (fun k=>k=q\/k=m) w w':=by
 refine calls_hide fun R hR=>?_
 have H:=zh h
 have HCL:=zh (clean_any s hs w hgl)
 have HCA:=zh (clean_all s)
 have HWT:=zh (show mkdirT t s=match cleanP s with
  |(p,e)=>if e ≠ 0 then .inr e else match nodeT t p with
   | some (true,_)=>.inl t
   | some (false,_)=>.inr 54
   | none=>match aheadT t p with
    | none=>.inr 54
    | some lack=>if roomT t (lack.length+1) 0 0=false then .inr 55 else .inl (makeT t (lack++[p])) from rfl)
 obtain ⟨⟨p,c⟩,hcl⟩:∃ z,z=cleanP s:=⟨_,rfl⟩
 rw [<- hcl] at HCL HCA HWT
 dsimp only at HCL HCA HWT
 clear h hcl
 unfold strV at *
 generalize (⟨s.toArray⟩:ByteArray)=Z at *
 go_enter func74,ntmps74
 go_wp2_with fail
 with_reducible refine HCL.out.mono ?_
 rintro e w1 ⟨rfl,hm1⟩
 have HM1:=zh hm1
 have H1:=zh (H.out.no hm1)
 clear hm1 HCL
 by_cases hc:c=0
 ·subst hc
  have hpl:p.length<=1000000:=by have:=HCA.out.1;omega
  have HAT:=zh (tat_any H1.out p hpl)
  unfold strV at *
  generalize hPP:(⟨p.toArray⟩:ByteArray)=P at *
  have HPP:=zh (show strV p=.string P by unfold strV;rw [hPP])
  clear hPP
  go_wp2_with fail
  with_reducible refine HAT.out.mono ?_
  rintro e w2 ⟨hat,hm2⟩
  have HM2:=zh (HM1.out.trans hm2)
  have H2:=zh (H1.out.no hm2)
  clear hm2 HAT
  unfold AtPost at hat
  cases hnd:nodeT t p with
  | some dc =>
   obtain ⟨d,ct⟩:=dc
   rw [hnd] at hat HWT
   obtain ⟨nb,nv,rfl,hnb,-⟩:=hat
   have n0:=cell_ofA hnb (i:=0) rfl
   cases d with
   | true =>
    have HW2:=zh (show mkdirT t s=.inl t from HWT.out)
    clear HWT hnb hnd
    go_wp2_with fail
    refine fin hR ⟨?_,HM2.out.weaken (fun _ _ f=>f.elim)⟩
    rw [HW2.out]
    exact ⟨rfl,_,H2.out⟩
   | false =>
    have HW2:=zh (show mkdirT t s=.inr 54 from HWT.out)
    clear HWT hnb hnd
    go_wp2_with fail
    refine fin hR ⟨?_,HM2.out.weaken (fun _ _ f=>f.elim)⟩
    rw [HW2.out]
    exact ⟨rfl,_,H2.out⟩
  | none =>
   rw [hnd] at hat HWT
   have hat:e=.returned (.pointer none):=hat
   subst hat
   have hp0:p ≠ []:=fun e=>by rw [e] at hnd;cases hnd
   have HP0:=zh hp0
   have HPN:=zh (show atT t p=none from by unfold nodeT at hnd;rw [if_neg hp0] at hnd;exact Option.map_eq_none_iff.1 hnd)
   have HAH0:=zh (tahead_any H2.out p hpl)
   have HAH:=zh (show Calls prog 136 #[.pointer (some ⟨q,0,none⟩),.string P] w2 fun e w'=>AheadPost w2 w' t p e/\Mod No w2 w' from by rw [<- HPP.out];exact HAH0.out)
   clear HAH0 hnd
   go_wp2_with fail
   with_reducible refine HAH.out.mono ?_
   rintro e w3 ⟨hah,hm3⟩
   have HM3:=zh (HM2.out.trans hm3)
   have H3:=zh (H2.out.no hm3)
   have hsz3:=hm3.size
   have HMB:=zh hm3
   clear hm3 HAH
   unfold AheadPost at hah
   cases hal:aheadT t p with
   | none =>
    rw [hal] at hah HWT
    have hah:e=.returned (.tuple #[.slice none 0 0,.int .i64 54]):=hah
    subst hah
    have HW2:=zh (show mkdirT t s=.inr 54 from HWT.out)
    clear HWT hal
    go_wp2_with fail
    refine fin hR ⟨?_,HM3.out.weaken (fun _ _ f=>f.elim)⟩
    rw [HW2.out]
    exact ⟨rfl,_,H3.out⟩
   | some lack =>
    rw [hal] at hah HWT
    obtain ⟨lv,rfl,hown⟩:=hah
    have HW2:=zh (show mkdirT t s=if roomT t (lack.length+1) 0 0=false then .inr 55 else .inl (makeT t (lack++[p])) from HWT.out)
    have HLK:=zh (aheadT_lack hal HP0.out)
    have HLA:=zh (aheadT_all hal)
    have hll:lack.length<=11:=by have h1:=HLA.out.1;have h2:=HCA.out.2;omega
    have HO3:=zh hown
    obtain ⟨la,lc,rfl⟩:=own_len hown
    clear HWT hown
    have HRM:=zh (troom_any H3.out ((lack.length:Int)+1) 0 (by omega) (by omega) (by omega) (by omega))
    have HRE:=zh (show (decide ((lack.length:Int)+1<=500 - (t.length:Int)) && decide ((0:Int)<=1048576 - (sizeT t:Int)))=roomT t (lack.length+1) 0 0 by
     unfold roomT
     rw [Bool.eq_iff_iff]
     simp
     omega)
    rw [HRE.out] at HRM
    go_wp2_with fail
    with_reducible refine HRM.out.mono ?_
    rintro e w4 ⟨rfl,rfl⟩
    clear HRM HRE
    cases hrm:roomT t (lack.length+1) 0 0 with
    | false =>
     go_wp2_with fail
     refine fin hR ⟨?_,HM3.out.weaken (fun _ _ f=>f.elim)⟩
     rw [HW2.out,if_pos hrm]
     exact ⟨rfl,_,H3.out⟩
    | true =>
     have HW3:=zh (show mkdirT t s=.inl (makeT t (lack++[p])) by rw [HW2.out,if_neg (by rw [hrm];decide)])
     obtain ⟨i1,hi1,hz0,hz1,hz2⟩:=info_parts info_strP
     have hmA:Mod No w4 (w4.alloc (.cells #[.string P] 9)):=(Mod.refl No w4).alloc _
     have HOV:=zh (own_keepM HO3.out hmA (fun _ _ f=>f))
     have hbase:w2.heap.size<=(w4.alloc (.cells #[.string P] 9)).heap.size:=Nat.le_trans hsz3 hmA.size
     have HHA:=zh hmA
     clear hrm HW2 hmA
     go_wp2_with (at_builtin;refine app_sl _ rfl _ _ 43 rfl w2.heap.size 9 i1 (.string ⟨#[]⟩) 1 16 underlying43 hi1 hz0 hz1 hz2 rfl (by decide) _ _ _ rfl HOV.out No 9 _ 1 [.string P] rfl (sl_new w4 9 [.string P] (Nat.le_refl 1) (by unfold maxLen;omega)) rfl (by simp [Value.oneCell']) (by unfold maxLen;omega) (by omega) hbase ?_)
     intro v7 w7 hown7 hg7 _
     have HM7:=zh (show Mod No w2 w7 from (HMB.out.trans HHA.out).then (Mod.of_grown (S:=fun q=>w2.heap.size<=q) hg7 (fun q e _=>(own_block_heapP HOV.out e).1)) (fun q hq e=>Nat.lt_irrefl _ (Nat.lt_of_lt_of_le hq e)))
     have hsl7:Sl w7 No 9 v7 (lack++[p]).length (strs (lack++[p])):=by
      rw [List.length_append,show strs (lack++[p])=strs lack++[.string P] by unfold strs;rw [List.map_append,<- HPP.out];rfl]
      exact Sl.of_own (X:=No) hown7 (fun _ _ f=>f)
     have HMK:=zh (tmake_any (H2.out.no HM7.out) (lack++[p]) v7 hsl7 (fun d hd=>by
      rcases List.mem_append.1 hd with h | h
      ·have h1:=HLA.out.2 d h;omega
      ·rw [List.mem_singleton.1 h];omega) (by rw [List.length_append,List.length_singleton];omega))
     have HSZ:=zh (show sizeT (makeT t (lack++[p]))=sizeT t from sizeT_make _ H2.out.asc (fun d hd f hf=>by
      rcases List.mem_append.1 hd with h | h
      ·rw [HLK.out.1 d h] at hf;cases hf
      ·rw [List.mem_singleton.1 h,HPN.out] at hf;cases hf))
     obtain ⟨a7,c7,rfl⟩:=own_len hown7
     clear hown7 hg7 hsl7 HOV HHA
     go_wp2_with fail
     with_reducible refine HMK.out.mono ?_
     rintro e w8 ⟨rfl,⟨g8,h8⟩,hm8⟩
     rw [<- HSZ.out] at h8
     have H8:=zh h8
     have HM8:=zh (show Mod (fun k=>k=q\/k=m) w w8 from ((HM2.out.trans HM7.out).weaken (fun _ _ f=>f.elim)).trans (hm8.weaken (fun _ _ e=>.inr e)))
     clear h8 hm8 HMK
     go_wp2_with fail
     refine fin hR ⟨?_,HM8.out⟩
     rw [HW3.out]
     exact ⟨rfl,_,H8.out⟩
 ·have hc0:((c:Int) == 0)=false:=by rw [beq_eq_false_iff_ne];omega
  go_wp2_with fail
  refine fin hR ⟨?_,HM1.out.weaken (fun _ _ f=>f.elim)⟩
  rw [HWT.out,if_pos hc]
  exact ⟨rfl,_,H1.out⟩
end Go.Proofs.YtmppeipgjcjdkaaGreatDoor
