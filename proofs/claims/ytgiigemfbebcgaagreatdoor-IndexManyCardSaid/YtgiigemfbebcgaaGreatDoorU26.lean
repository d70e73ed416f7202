/-
  Layers 0 to 14: helps of the laws of indexes. No statement is proved here; no condition.
-/
import Derived.Test.YtgiigemfbebcgaaGreatDoorU22
import Derived.Test.YtgiigemfbebcgaaGreatDoorU14
import Derived.Test.YtgiigemfbebcgaaGreatDoorU19
import Derived.Test.YtgiigemfbebcgaaGreatDoorU21
import Derived.Test.YtgiigemfbebcgaaGreatDoorU24
import Derived.Test.YtgiigemfbebcgaaGreatDoorU15
import Derived.Test.YtgiigemfbebcgaaGreatDoorU20
import Derived.Test.YtgiigemfbebcgaaGreatDoorU03
namespace Go.Proofs.YtgiigemfbebcgaaGreatDoor
open _root_.Go.Proofs.Tryz
open Go.RowKit
theorem blank_any (x:Nat) (w:World):Calls prog 149 #[.int .i32 (x:Int)] w fun e w'=>e=.returned (.bool (x == 32))/\Mod No w w':=by
 refine calls_hide fun R hR=>?_
 have h0:(0:Int)<=(x:Int):=Int.natCast_nonneg _
 go_enter func149,ntmps149
 by_cases hx:x=32
 ·subst hx
  go_wp2_with fail
  exact fin hR ⟨rfl,Mod.refl _ _⟩
 ·have hx2:((x:Int) == 32)=false:=by simp;omega
  have hx3:(x == 32)=false:=by simpa using hx
  go_wp2_with fail
  exact fin hR ⟨(by rw [hx3];try rfl),Mod.refl _ _⟩
set_option maxRecDepth 100000 in
theorem fields_any (l:List UInt8) (hl:l.length<=1000000) (w:World):Calls prog 148 #[strV l,.func (.func 149) #[] #[]] w fun e w' =>
  ∃ v,e=.returned v/\w'.ownsRow w.heap.size 9 1 v (wordsL l).length (strs (wordsL l))/\Mod No w w':=by
 have hp:PredGrows prog 149 #[] (fun r=>r == 32) w:=fun W x _ _=>(blank_any x W).mono fun e w' ⟨he,hm⟩=>⟨he,hm.below⟩
 have hw:=fields_words l
 refine (Tryz.strings_FieldsFunc_grows 149 #[] (fun _ _=>rfl) (fun r=>r == 32) ⟨l.toArray⟩ w (by rw [str_len3];omega) hp).mono fun e w' ⟨A,he,hA,ho,hb⟩=>?_
 have e1:(Lib.goFieldsP (fun r=>r == 32) ⟨l.toArray⟩).map Value.string=strs (wordsL l):=by
  rw [hw,List.map_map];rfl
 have e2:(Lib.goFieldsP (fun r=>r == 32) ⟨l.toArray⟩).length=(wordsL l).length:=by rw [hw,List.length_map]
 rw [e1,e2] at ho
 exact ⟨_,he.trans (by rw [e2]),ho,Mod.of_below hb⟩
theorem trim_any (l:List UInt8) (hl:l.length<=1000000) (w:World):Calls prog 146 #[strV l,.string ⟨#[32]⟩] w fun e w'=>e=.returned (strV (Lib.trimB l 32))/\Mod No w w' :=
 (Tryz.strings_Trim_one ⟨l.toArray⟩ 32 (by decide) w (by rw [str_len3];omega)).mono fun e w' ⟨he,hw⟩=>⟨he,by
  rcases hw with rfl | rfl
  ·exact Mod.refl _ _
  ·exact (Mod.refl No w).drew⟩
set_option maxRecDepth 100000 in
set_option maxHeartbeats 8000000 in
theorem word_any (l:List UInt8) (hl:l.length<=1000000) (w:World) (hgl:Gl w) :
  Calls prog 150 #[strV l] w fun e w'=>((boundsL l=none/\e=.returned (.tuple #[.slice none 0 0,.bool false]))\/∃ bs v,boundsL l=some bs/\e=.returned (.tuple #[v,.bool true])/\BndsX (Old w) w' v bs)/\Mod No w w':=by
 refine calls_hide fun R hR=>?_
 have HB:=zh (show boundsL l=(verOf (l.drop (signL l).length)).map (boundsV (signL l)) from rfl)
 have HSG:=zh (signed_any l w)
 have HVO:=zh (fun w h=>verparse_any (l.drop (signL l).length) (by rw [List.length_drop];omega) w h)
 have HGL:=zh hgl
 generalize signL l=sg at *
 have HSN:=zh (str_list sg)
 clear hgl
 unfold strV at *
 generalize (⟨l.toArray⟩:ByteArray)=Z at *
 generalize (⟨sg.toArray⟩:ByteArray)=G at *
 generalize (⟨(l.drop sg.length).toArray⟩:ByteArray)=D at *
 go_enter func150,ntmps150
 go_wp2_with fail
 with_reducible refine HSG.out.mono ?_
 rintro e w3 ⟨rfl,hm3⟩
 have HM3:=zh hm3
 have HG3:=zh (HGL.out.stay hm3 (fun f=>f))
 clear hm3 HGL HSG
 go_wp2_with fail
 with_reducible refine (HVO.out _ HG3.out).mono ?_
 rintro e w4 ⟨hv,hm4⟩
 rcases hv with ⟨hn,rfl⟩ | ⟨⟨a,b,d,pr⟩,pv,hv,rfl,hp⟩
 ·have HN:=zh (show boundsL l=none by rw [HB.out,hn];rfl)
  have HM4:=zh (HM3.out.trans hm4)
  clear hn hm4 HB HVO
  go_wp2_with fail
  exact fin hR ⟨.inl ⟨HN.out,rfl⟩,HM4.out.alloc _⟩
 ·have HOK:=zh (verOf_ok hv)
  have HY:=zh (show boundsL l=some (boundsV sg ⟨a,b,d,pr⟩) by rw [HB.out,hv];rfl)
  obtain ⟨pa,pc,rfl⟩:=hp.len
  dsimp only at *
  have HP4:=zh (hp.shrink (Y:=Old w) (fun k _ h=>Nat.lt_of_lt_of_le h HM3.out.size))
  have HM4:=zh (HM3.out.trans hm4)
  clear hv hm4 hp HB HVO HM3
  go_upto_region 3 with fail
  obtain ⟨gv,hgv⟩:∃ g,g=w4.heap.size:=⟨_,rfl⟩
  rw [<- hgv]
  generalize hw6:World.alloc w4 _=w6
  have HM6:=zh (show Mod No w w6 by rw [<- hw6];exact HM4.out.alloc _)
  have HP6:=zh (show Sl w6 (Old w) 9 (.slice pa pr.length pc) pr.length (strs pr) by rw [<- hw6];exact HP4.out.keep (S:=No) ((Mod.refl No w4).alloc _) (fun _ _ _ f=>f.elim))
  have HV6:=zh (show w6.heap[gv]? = some (.cells #[.int .i64 a,.int .i64 b,.int .i64 d,.slice pa pr.length pc] 40 (0,0)) by rw [<- hw6,hgv];exact heap_alloc_new w4 _)
  clear hw6 hgv HM4 HP4
  obtain ⟨⟨c0,c1,c2,c3⟩,-⟩:=cells4 HV6.out
  by_cases s0:sg=[]
  ·subst s0
   have hg:G.toList=[]:=HSN.out
   have HY6:=zh (show boundsL l=some [⟨[61],⟨a,b,d,pr⟩⟩] by rw [HY.out];rfl)
   clear HSN HY HOK
   go_wp2_with fail
   exact fin hR ⟨.inr ⟨_,_,HY6.out,rfl,bndsX_new w6 [⟨⟨[61],⟨a,b,d,pr⟩⟩,.slice pa pr.length pc⟩] (fun x hx=>by
    rcases List.mem_cons.1 hx with rfl | hx
    ·exact HP6.out
    ·cases hx) (Nat.le_of_ble_eq_true rfl) (fun h=>Nat.lt_irrefl _ (Nat.lt_of_lt_of_le h HM6.out.size))⟩,HM6.out.alloc _⟩
  ·have hg0:G.toList.isEmpty=false:=by rw [HSN.out];simpa using s0
   by_cases s1:sg=[94]
   ·subst s1
    have hg:G.toList=[94]:=HSN.out
    have HYC:=zh (show boundsL l=some [⟨[62,61],⟨a,b,d,pr⟩⟩,⟨[60],nextV ⟨a,b,d,pr⟩ (if 0 < a then 0 else if 0 < b then 1 else 2)⟩] by rw [HY.out];rfl)
    have hb0:=HOK.out.mi.1
    dsimp only at hb0
    clear HSN HY hg0 s0
    by_cases ha:0 < a
    ·have hyc:=HYC.out
     rw [if_pos ha] at hyc
     clear HYC
     have HY6:=zh hyc
     have HNX:=zh (show ∀ w,Calls prog 185 #[.agg #[.int .i64 a,.int .i64 b,.int .i64 d,.slice pa pr.length pc],.int .i64 0] w fun e w'=>e=.returned (verV (nextV ⟨a,b,d,pr⟩ 0) (.slice none 0 0))/\Mod No w w' from fun w=>next_any ⟨a,b,d,pr⟩ (.slice pa pr.length pc) 0 (by decide) HOK.out w)
     have HNP:=zh (nextV_pre ⟨a,b,d,pr⟩ 0)
     generalize nextV ⟨a,b,d,pr⟩ 0=nx at *
     obtain ⟨n0,n1,n2,npr⟩:=nx
     obtain rfl:npr=[]:=HNP.out
     clear HNP
     go_upto_region 15 with fail
     obtain ⟨wA,hwA⟩:∃ z,z=w6.drew:=⟨_,rfl⟩
     have HMA:=zh (show Mod No w wA by rw [hwA];exact HM6.out.drew)
     have HPA:=zh (show Sl wA (Old w) 9 (.slice pa pr.length pc) pr.length (strs pr) by rw [hwA];exact HP6.out.keep (S:=No) (Mod.refl No w6).drew (fun _ _ _ f=>f.elim))
     have HSM:=zh (show ∀ w',Mod No wA w'->w'.cell? ⟨gv,0,none⟩=some (.int .i64 a)/\w'.cell? ⟨gv,1,none⟩=some (.int .i64 b)/\w'.cell? ⟨gv,2,none⟩=some (.int .i64 d)/\w'.cell? ⟨gv,3,none⟩=some (.slice pa pr.length pc) from fun w' hm=>by
      have hm6:Mod No w6 w':=by rw [hwA] at hm;exact (Mod.refl No w6).drew.trans hm
      have hv:=hm6.keep HV6.out (fun f=>f)
      exact ⟨cell_ofA hv rfl,cell_ofA hv rfl,cell_ofA hv rfl,cell_ofA hv rfl⟩)
     have hS0:=HSM.out wA (Mod.refl _ _)
     have HWA:=zh hwA
     clear hwA c0 c1 c2 c3 HM6 HP6 HV6
     refine wp_region_T (fun w'=>w'.cell? ⟨gv,0,none⟩=some (.int .i64 a)/\w'.cell? ⟨gv,1,none⟩=some (.int .i64 b)/\w'.cell? ⟨gv,2,none⟩=some (.int .i64 d)/\w'.cell? ⟨gv,3,none⟩=some (.slice pa pr.length pc)) 99 (by kernel_rfl) ?_
     rw [<- HWA.out]
     clear HWA
     refine yT 0 (some 39) ?_ hS0 ?_ ?_
     rotate_left
     ·(intro w' hSw;obtain ⟨q0,q1,q2,q3⟩:=hSw;go_simp;try with_reducible rfl)
     simp only [Act.put,yB,yC,yD]
     refine yT 1 (some 40) ?_ hS0 ?_ ?_
     rotate_left
     ·(intro w' hSw;obtain ⟨q0,q1,q2,q3⟩:=hSw;go_simp;try with_reducible rfl)
     simp only [Act.put,yB,yC,yD]
     refine yT 2 (some 41) ?_ hS0 ?_ ?_
     rotate_left
     ·(intro w' hSw;obtain ⟨q0,q1,q2,q3⟩:=hSw;go_simp;try with_reducible rfl)
     simp only [Act.put,yB,yC,yD]
     refine yT 3 (some 42) ?_ hS0 ?_ ?_
     rotate_left
     ·(intro w' hSw;obtain ⟨q0,q1,q2,q3⟩:=hSw;go_simp;try with_reducible rfl)
     simp only [Act.put,yB,yC,yD]
     refine wpAnyT_one 4 rfl (by kernel_rfl) rfl ?_
     intro K hK
     go_simp
     go_at_call 185
     with_reducible refine (HNX.out _).mono ?_
     rintro e wB ⟨rfl,hB⟩
     have HMB:=zh hB
     clear hB
     show K _ _
     have hS1:=HSM.out wB HMB.out
     refine hK.out _ _ (fun _=>hS1) ?_
     clear hK K
     refine yT 5 (some 44) ?_ hS1 ?_ ?_
     rotate_left
     ·(intro w' hSw;obtain ⟨q0,q1,q2,q3⟩:=hSw;go_simp;try with_reducible rfl)
     simp only [Act.put,yB,yC,yD]
     refine wpAnyT_one 6 rfl (by kernel_rfl) rfl ?_
     intro K hK
     go_simp
     show K _ _
     have hS2:=HSM.out (wB.alloc (.cells #[.string ⟨#[62,61]⟩,.int .i64 a,.int .i64 b,.int .i64 d,.slice pa pr.length pc,.string ⟨#[60]⟩,.int .i64 n0,.int .i64 n1,.int .i64 n2,.slice none 0 0] 153)) (HMB.out.alloc _)
     refine hK.out _ _ (fun _=>hS2) ?_
     clear hK K
     refine yT 7 (some 2) ?_ hS2 ?_ ?_
     rotate_left
     ·(intro w' hSw;obtain ⟨q0,q1,q2,q3⟩:=hSw;go_simp;try with_reducible rfl)
     simp only [Act.put,yB,yC,yD]
     refine yT 8 (some 3) ?_ hS2 ?_ ?_
     rotate_left
     ·(intro w' hSw;obtain ⟨q0,q1,q2,q3⟩:=hSw;go_simp;try with_reducible rfl)
     simp only [Act.put]
     refine wpAnyT_done (by kernel_rfl) ?_ _
     go_wp2_with fail
     exact fin hR ⟨.inr ⟨_,_,HY6.out,rfl,bndsX_new wB [⟨⟨[62,61],⟨a,b,d,pr⟩⟩,.slice pa pr.length pc⟩,⟨⟨[60],⟨n0,n1,n2,[]⟩⟩,.slice none 0 0⟩] (fun x hx=>by
      rcases List.mem_cons.1 hx with rfl | hx
      ·exact HPA.out.keep (S:=No) HMB.out (fun _ _ _ f=>f.elim)
      ·rcases List.mem_cons.1 hx with rfl | hx
       ·exact .inl ⟨rfl,rfl,rfl⟩
       ·cases hx) (Nat.le_of_ble_eq_true rfl) (fun h=>Nat.lt_irrefl _ (Nat.lt_of_lt_of_le h (HMA.out.trans HMB.out).size))⟩,HMA.out.trans (HMB.out.alloc _)⟩
    ·have ha':a<=0:=by omega
     by_cases hb:0 < b
     ·have hyc:=HYC.out
      rw [if_neg ha,if_pos hb] at hyc
      have hbb:(b == 0)=false:=by simp;omega
      clear HYC
      have HY6:=zh hyc
      have HNX:=zh (show ∀ w,Calls prog 185 #[.agg #[.int .i64 a,.int .i64 b,.int .i64 d,.slice pa pr.length pc],.int .i64 1] w fun e w'=>e=.returned (verV (nextV ⟨a,b,d,pr⟩ 1) (.slice none 0 0))/\Mod No w w' from fun w=>next_any ⟨a,b,d,pr⟩ (.slice pa pr.length pc) 1 (by decide) HOK.out w)
      have HNP:=zh (nextV_pre ⟨a,b,d,pr⟩ 1)
      generalize nextV ⟨a,b,d,pr⟩ 1=nx at *
      obtain ⟨n0,n1,n2,npr⟩:=nx
      obtain rfl:npr=[]:=HNP.out
      clear HNP
      go_upto_region 15 with fail
      obtain ⟨wA,hwA⟩:∃ z,z=w6.drew:=⟨_,rfl⟩
      have HMA:=zh (show Mod No w wA by rw [hwA];exact HM6.out.drew)
      have HPA:=zh (show Sl wA (Old w) 9 (.slice pa pr.length pc) pr.length (strs pr) by rw [hwA];exact HP6.out.keep (S:=No) (Mod.refl No w6).drew (fun _ _ _ f=>f.elim))
      have HSM:=zh (show ∀ w',Mod No wA w'->w'.cell? ⟨gv,0,none⟩=some (.int .i64 a)/\w'.cell? ⟨gv,1,none⟩=some (.int .i64 b)/\w'.cell? ⟨gv,2,none⟩=some (.int .i64 d)/\w'.cell? ⟨gv,3,none⟩=some (.slice pa pr.length pc) from fun w' hm=>by
       have hm6:Mod No w6 w':=by rw [hwA] at hm;exact (Mod.refl No w6).drew.trans hm
       have hv:=hm6.keep HV6.out (fun f=>f)
       exact ⟨cell_ofA hv rfl,cell_ofA hv rfl,cell_ofA hv rfl,cell_ofA hv rfl⟩)
      have hS0:=HSM.out wA (Mod.refl _ _)
      have HWA:=zh hwA
      clear hwA c0 c1 c2 c3 HM6 HP6 HV6
      refine wp_region_T (fun w'=>w'.cell? ⟨gv,0,none⟩=some (.int .i64 a)/\w'.cell? ⟨gv,1,none⟩=some (.int .i64 b)/\w'.cell? ⟨gv,2,none⟩=some (.int .i64 d)/\w'.cell? ⟨gv,3,none⟩=some (.slice pa pr.length pc)) 99 (by kernel_rfl) ?_
      rw [<- HWA.out]
      clear HWA
      refine yT 0 (some 39) ?_ hS0 ?_ ?_
      rotate_left
      ·(intro w' hSw;obtain ⟨q0,q1,q2,q3⟩:=hSw;go_simp;try with_reducible rfl)
      simp only [Act.put,yB,yC,yD]
      refine yT 1 (some 40) ?_ hS0 ?_ ?_
      rotate_left
      ·(intro w' hSw;obtain ⟨q0,q1,q2,q3⟩:=hSw;go_simp;try with_reducible rfl)
      simp only [Act.put,yB,yC,yD]
      refine yT 2 (some 41) ?_ hS0 ?_ ?_
      rotate_left
      ·(intro w' hSw;obtain ⟨q0,q1,q2,q3⟩:=hSw;go_simp;try with_reducible rfl)
      simp only [Act.put,yB,yC,yD]
      refine yT 3 (some 42) ?_ hS0 ?_ ?_
      rotate_left
      ·(intro w' hSw;obtain ⟨q0,q1,q2,q3⟩:=hSw;go_simp;try with_reducible rfl)
      simp only [Act.put,yB,yC,yD]
      refine wpAnyT_one 4 rfl (by kernel_rfl) rfl ?_
      intro K hK
      go_simp
      go_at_call 185
      with_reducible refine (HNX.out _).mono ?_
      rintro e wB ⟨rfl,hB⟩
      have HMB:=zh hB
      clear hB
      show K _ _
      have hS1:=HSM.out wB HMB.out
      refine hK.out _ _ (fun _=>hS1) ?_
      clear hK K
      refine yT 5 (some 44) ?_ hS1 ?_ ?_
      rotate_left
      ·(intro w' hSw;obtain ⟨q0,q1,q2,q3⟩:=hSw;go_simp;try with_reducible rfl)
      simp only [Act.put,yB,yC,yD]
      refine wpAnyT_one 6 rfl (by kernel_rfl) rfl ?_
      intro K hK
      go_simp
      show K _ _
      have hS2:=HSM.out (wB.alloc (.cells #[.string ⟨#[62,61]⟩,.int .i64 a,.int .i64 b,.int .i64 d,.slice pa pr.length pc,.string ⟨#[60]⟩,.int .i64 n0,.int .i64 n1,.int .i64 n2,.slice none 0 0] 153)) (HMB.out.alloc _)
      refine hK.out _ _ (fun _=>hS2) ?_
      clear hK K
      refine yT 7 (some 2) ?_ hS2 ?_ ?_
      rotate_left
      ·(intro w' hSw;obtain ⟨q0,q1,q2,q3⟩:=hSw;go_simp;try with_reducible rfl)
      simp only [Act.put,yB,yC,yD]
      refine yT 8 (some 3) ?_ hS2 ?_ ?_
      rotate_left
      ·(intro w' hSw;obtain ⟨q0,q1,q2,q3⟩:=hSw;go_simp;try with_reducible rfl)
      simp only [Act.put]
      refine wpAnyT_done (by kernel_rfl) ?_ _
      go_wp2_with fail
      exact fin hR ⟨.inr ⟨_,_,HY6.out,rfl,bndsX_new wB [⟨⟨[62,61],⟨a,b,d,pr⟩⟩,.slice pa pr.length pc⟩,⟨⟨[60],⟨n0,n1,n2,[]⟩⟩,.slice none 0 0⟩] (fun x hx=>by
       rcases List.mem_cons.1 hx with rfl | hx
       ·exact HPA.out.keep (S:=No) HMB.out (fun _ _ _ f=>f.elim)
       ·rcases List.mem_cons.1 hx with rfl | hx
        ·exact .inl ⟨rfl,rfl,rfl⟩
        ·cases hx) (Nat.le_of_ble_eq_true rfl) (fun h=>Nat.lt_irrefl _ (Nat.lt_of_lt_of_le h (HMA.out.trans HMB.out).size))⟩,HMA.out.trans (HMB.out.alloc _)⟩
     ·obtain rfl:b=0:=by omega
      have hyc:=HYC.out
      rw [if_neg ha,if_neg hb] at hyc
      clear HYC hb
      have HY6:=zh hyc
      have HNX:=zh (show ∀ w,Calls prog 185 #[.agg #[.int .i64 a,.int .i64 0,.int .i64 d,.slice pa pr.length pc],.int .i64 2] w fun e w'=>e=.returned (verV (nextV ⟨a,0,d,pr⟩ 2) (.slice none 0 0))/\Mod No w w' from fun w=>next_any ⟨a,0,d,pr⟩ (.slice pa pr.length pc) 2 (by decide) HOK.out w)
      have HNP:=zh (nextV_pre ⟨a,0,d,pr⟩ 2)
      generalize nextV ⟨a,0,d,pr⟩ 2=nx at *
      obtain ⟨n0,n1,n2,npr⟩:=nx
      obtain rfl:npr=[]:=HNP.out
      clear HNP
      go_upto_region 15 with fail
      obtain ⟨wA,hwA⟩:∃ z,z=w6.drew:=⟨_,rfl⟩
      have HMA:=zh (show Mod No w wA by rw [hwA];exact HM6.out.drew)
      have HPA:=zh (show Sl wA (Old w) 9 (.slice pa pr.length pc) pr.length (strs pr) by rw [hwA];exact HP6.out.keep (S:=No) (Mod.refl No w6).drew (fun _ _ _ f=>f.elim))
      have HSM:=zh (show ∀ w',Mod No wA w'->w'.cell? ⟨gv,0,none⟩=some (.int .i64 a)/\w'.cell? ⟨gv,1,none⟩=some (.int .i64 0)/\w'.cell? ⟨gv,2,none⟩=some (.int .i64 d)/\w'.cell? ⟨gv,3,none⟩=some (.slice pa pr.length pc) from fun w' hm=>by
       have hm6:Mod No w6 w':=by rw [hwA] at hm;exact (Mod.refl No w6).drew.trans hm
       have hv:=hm6.keep HV6.out (fun f=>f)
       exact ⟨cell_ofA hv rfl,cell_ofA hv rfl,cell_ofA hv rfl,cell_ofA hv rfl⟩)
      have hS0:=HSM.out wA (Mod.refl _ _)
      have HWA:=zh hwA
      clear hwA c0 c1 c2 c3 HM6 HP6 HV6
      refine wp_region_T (fun w'=>w'.cell? ⟨gv,0,none⟩=some (.int .i64 a)/\w'.cell? ⟨gv,1,none⟩=some (.int .i64 0)/\w'.cell? ⟨gv,2,none⟩=some (.int .i64 d)/\w'.cell? ⟨gv,3,none⟩=some (.slice pa pr.length pc)) 99 (by kernel_rfl) ?_
      rw [<- HWA.out]
      clear HWA
      refine yT 0 (some 39) ?_ hS0 ?_ ?_
      rotate_left
      ·(intro w' hSw;obtain ⟨q0,q1,q2,q3⟩:=hSw;go_simp;try with_reducible rfl)
      simp only [Act.put,yB,yC,yD]
      refine yT 1 (some 40) ?_ hS0 ?_ ?_
      rotate_left
      ·(intro w' hSw;obtain ⟨q0,q1,q2,q3⟩:=hSw;go_simp;try with_reducible rfl)
      simp only [Act.put,yB,yC,yD]
      refine yT 2 (some 41) ?_ hS0 ?_ ?_
      rotate_left
      ·(intro w' hSw;obtain ⟨q0,q1,q2,q3⟩:=hSw;go_simp;try with_reducible rfl)
      simp only [Act.put,yB,yC,yD]
      refine yT 3 (some 42) ?_ hS0 ?_ ?_
      rotate_left
      ·(intro w' hSw;obtain ⟨q0,q1,q2,q3⟩:=hSw;go_simp;try with_reducible rfl)
      simp only [Act.put,yB,yC,yD]
      refine wpAnyT_one 4 rfl (by kernel_rfl) rfl ?_
      intro K hK
      go_simp
      go_at_call 185
      with_reducible refine (HNX.out _).mono ?_
      rintro e wB ⟨rfl,hB⟩
      have HMB:=zh hB
      clear hB
      show K _ _
      have hS1:=HSM.out wB HMB.out
      refine hK.out _ _ (fun _=>hS1) ?_
      clear hK K
      refine yT 5 (some 44) ?_ hS1 ?_ ?_
      rotate_left
      ·(intro w' hSw;obtain ⟨q0,q1,q2,q3⟩:=hSw;go_simp;try with_reducible rfl)
      simp only [Act.put,yB,yC,yD]
      refine wpAnyT_one 6 rfl (by kernel_rfl) rfl ?_
      intro K hK
      go_simp
      show K _ _
      have hS2:=HSM.out (wB.alloc (.cells #[.string ⟨#[62,61]⟩,.int .i64 a,.int .i64 0,.int .i64 d,.slice pa pr.length pc,.string ⟨#[60]⟩,.int .i64 n0,.int .i64 n1,.int .i64 n2,.slice none 0 0] 153)) (HMB.out.alloc _)
      refine hK.out _ _ (fun _=>hS2) ?_
      clear hK K
      refine yT 7 (some 2) ?_ hS2 ?_ ?_
      rotate_left
      ·(intro w' hSw;obtain ⟨q0,q1,q2,q3⟩:=hSw;go_simp;try with_reducible rfl)
      simp only [Act.put,yB,yC,yD]
      refine yT 8 (some 3) ?_ hS2 ?_ ?_
      rotate_left
      ·(intro w' hSw;obtain ⟨q0,q1,q2,q3⟩:=hSw;go_simp;try with_reducible rfl)
      simp only [Act.put]
      refine wpAnyT_done (by kernel_rfl) ?_ _
      go_wp2_with fail
      exact fin hR ⟨.inr ⟨_,_,HY6.out,rfl,bndsX_new wB [⟨⟨[62,61],⟨a,0,d,pr⟩⟩,.slice pa pr.length pc⟩,⟨⟨[60],⟨n0,n1,n2,[]⟩⟩,.slice none 0 0⟩] (fun x hx=>by
       rcases List.mem_cons.1 hx with rfl | hx
       ·exact HPA.out.keep (S:=No) HMB.out (fun _ _ _ f=>f.elim)
       ·rcases List.mem_cons.1 hx with rfl | hx
        ·exact .inl ⟨rfl,rfl,rfl⟩
        ·cases hx) (Nat.le_of_ble_eq_true rfl) (fun h=>Nat.lt_irrefl _ (Nat.lt_of_lt_of_le h (HMA.out.trans HMB.out).size))⟩,HMA.out.trans (HMB.out.alloc _)⟩
   ·have hg1:(G.toList == [94])=false:=by rw [HSN.out];simpa using s1
    by_cases s2:sg=[126]
    ·subst s2
     have hg:G.toList=[126]:=HSN.out
     have hyc:boundsL l=some [⟨[62,61],⟨a,b,d,pr⟩⟩,⟨[60],nextV ⟨a,b,d,pr⟩ 1⟩]:=by rw [HY.out];rfl
     clear HSN HY hg0 s0 hg1 s1
     have HY6:=zh hyc
     have HNX:=zh (show ∀ w,Calls prog 185 #[.agg #[.int .i64 a,.int .i64 b,.int .i64 d,.slice pa pr.length pc],.int .i64 1] w fun e w'=>e=.returned (verV (nextV ⟨a,b,d,pr⟩ 1) (.slice none 0 0))/\Mod No w w' from fun w=>next_any ⟨a,b,d,pr⟩ (.slice pa pr.length pc) 1 (by decide) HOK.out w)
     have HNP:=zh (nextV_pre ⟨a,b,d,pr⟩ 1)
     generalize nextV ⟨a,b,d,pr⟩ 1=nx at *
     obtain ⟨n0,n1,n2,npr⟩:=nx
     obtain rfl:npr=[]:=HNP.out
     clear HNP
     go_upto_region 15 with fail
     obtain ⟨wA,hwA⟩:∃ z,z=w6.drew:=⟨_,rfl⟩
     have HMA:=zh (show Mod No w wA by rw [hwA];exact HM6.out.drew)
     have HPA:=zh (show Sl wA (Old w) 9 (.slice pa pr.length pc) pr.length (strs pr) by rw [hwA];exact HP6.out.keep (S:=No) (Mod.refl No w6).drew (fun _ _ _ f=>f.elim))
     have HSM:=zh (show ∀ w',Mod No wA w'->w'.cell? ⟨gv,0,none⟩=some (.int .i64 a)/\w'.cell? ⟨gv,1,none⟩=some (.int .i64 b)/\w'.cell? ⟨gv,2,none⟩=some (.int .i64 d)/\w'.cell? ⟨gv,3,none⟩=some (.slice pa pr.length pc) from fun w' hm=>by
      have hm6:Mod No w6 w':=by rw [hwA] at hm;exact (Mod.refl No w6).drew.trans hm
      have hv:=hm6.keep HV6.out (fun f=>f)
      exact ⟨cell_ofA hv rfl,cell_ofA hv rfl,cell_ofA hv rfl,cell_ofA hv rfl⟩)
     have hS0:=HSM.out wA (Mod.refl _ _)
     have HWA:=zh hwA
     clear hwA c0 c1 c2 c3 HM6 HP6 HV6
     refine wp_region_T (fun w'=>w'.cell? ⟨gv,0,none⟩=some (.int .i64 a)/\w'.cell? ⟨gv,1,none⟩=some (.int .i64 b)/\w'.cell? ⟨gv,2,none⟩=some (.int .i64 d)/\w'.cell? ⟨gv,3,none⟩=some (.slice pa pr.length pc)) 99 (by kernel_rfl) ?_
     rw [<- HWA.out]
     clear HWA
     refine yT 0 (some 39) ?_ hS0 ?_ ?_
     rotate_left
     ·(intro w' hSw;obtain ⟨q0,q1,q2,q3⟩:=hSw;go_simp;try with_reducible rfl)
     simp only [Act.put,yB,yC,yD]
     refine yT 1 (some 40) ?_ hS0 ?_ ?_
     rotate_left
     ·(intro w' hSw;obtain ⟨q0,q1,q2,q3⟩:=hSw;go_simp;try with_reducible rfl)
     simp only [Act.put,yB,yC,yD]
     refine yT 2 (some 41) ?_ hS0 ?_ ?_
     rotate_left
     ·(intro w' hSw;obtain ⟨q0,q1,q2,q3⟩:=hSw;go_simp;try with_reducible rfl)
     simp only [Act.put,yB,yC,yD]
     refine yT 3 (some 42) ?_ hS0 ?_ ?_
     rotate_left
     ·(intro w' hSw;obtain ⟨q0,q1,q2,q3⟩:=hSw;go_simp;try with_reducible rfl)
     simp only [Act.put,yB,yC,yD]
     refine wpAnyT_one 4 rfl (by kernel_rfl) rfl ?_
     intro K hK
     go_simp
     go_at_call 185
     with_reducible refine (HNX.out _).mono ?_
     rintro e wB ⟨rfl,hB⟩
     have HMB:=zh hB
     clear hB
     show K _ _
     have hS1:=HSM.out wB HMB.out
     refine hK.out _ _ (fun _=>hS1) ?_
     clear hK K
     refine yT 5 (some 44) ?_ hS1 ?_ ?_
     rotate_left
     ·(intro w' hSw;obtain ⟨q0,q1,q2,q3⟩:=hSw;go_simp;try with_reducible rfl)
     simp only [Act.put,yB,yC,yD]
     refine wpAnyT_one 6 rfl (by kernel_rfl) rfl ?_
     intro K hK
     go_simp
     show K _ _
     have hS2:=HSM.out (wB.alloc (.cells #[.string ⟨#[62,61]⟩,.int .i64 a,.int .i64 b,.int .i64 d,.slice pa pr.length pc,.string ⟨#[60]⟩,.int .i64 n0,.int .i64 n1,.int .i64 n2,.slice none 0 0] 153)) (HMB.out.alloc _)
     refine hK.out _ _ (fun _=>hS2) ?_
     clear hK K
     refine yT 7 (some 2) ?_ hS2 ?_ ?_
     rotate_left
     ·(intro w' hSw;obtain ⟨q0,q1,q2,q3⟩:=hSw;go_simp;try with_reducible rfl)
     simp only [Act.put,yB,yC,yD]
     refine yT 8 (some 3) ?_ hS2 ?_ ?_
     rotate_left
     ·(intro w' hSw;obtain ⟨q0,q1,q2,q3⟩:=hSw;go_simp;try with_reducible rfl)
     simp only [Act.put]
     refine wpAnyT_done (by kernel_rfl) ?_ _
     go_wp2_with fail
     exact fin hR ⟨.inr ⟨_,_,HY6.out,rfl,bndsX_new wB [⟨⟨[62,61],⟨a,b,d,pr⟩⟩,.slice pa pr.length pc⟩,⟨⟨[60],⟨n0,n1,n2,[]⟩⟩,.slice none 0 0⟩] (fun x hx=>by
      rcases List.mem_cons.1 hx with rfl | hx
      ·exact HPA.out.keep (S:=No) HMB.out (fun _ _ _ f=>f.elim)
      ·rcases List.mem_cons.1 hx with rfl | hx
       ·exact .inl ⟨rfl,rfl,rfl⟩
       ·cases hx) (Nat.le_of_ble_eq_true rfl) (fun h=>Nat.lt_irrefl _ (Nat.lt_of_lt_of_le h (HMA.out.trans HMB.out).size))⟩,HMA.out.trans (HMB.out.alloc _)⟩
    ·have hg2:(G.toList == [126])=false:=by rw [HSN.out];simpa using s2
     have HY6:=zh (show boundsL l=some [⟨sg,⟨a,b,d,pr⟩⟩] by rw [HY.out];unfold boundsV;rw [if_neg s0,if_neg s1,if_neg s2])
     have HGS:=zh (show (Value.string G)=.string ⟨sg.toArray⟩ from congrArg Value.string (bytes_of_list HSN.out))
     clear HY HOK HSN s0 s1 s2
     go_wp2_with fail
     rw [HGS.out]
     exact fin hR ⟨.inr ⟨_,_,HY6.out,rfl,bndsX_new w6 [⟨⟨sg,⟨a,b,d,pr⟩⟩,.slice pa pr.length pc⟩] (fun x hx=>by
      rcases List.mem_cons.1 hx with rfl | hx
      ·exact HP6.out
      ·cases hx) (Nat.le_of_ble_eq_true rfl) (fun h=>Nat.lt_irrefl _ (Nat.lt_of_lt_of_le h HM6.out.size))⟩,HM6.out.alloc _⟩
theorem wrap_nat {k:Nat} (h:k<=1000000000):wrap64 (k:Int)=(k:Int):=by
 unfold wrap64
 omega
theorem lines_cases (l:List UInt8):∃ k,(splitC 10 l).length=k+1/\∃ last,(splitC 10 l)[k]? = some last ∧
  (last=[]->k=(linesL l).length/\strs (linesL l)=((strs (splitC 10 l)).drop 0).take k)/\(last ≠ []->(linesL l).length=k+1/\strs (linesL l)=strs (splitC 10 l)):=by
 have hne:=splitC_ne 10 l
 unfold linesL
 generalize splitC 10 l=ps at *
 have e:=List.dropLast_concat_getLast hne
 obtain ⟨d,z,rfl⟩:∃ d z,ps=d++[z]:=⟨_,_,e.symm⟩
 refine ⟨d.length,by simp,z,by simp,fun hz=>?_,fun hz=>?_⟩
 ·subst hz
  rw [if_pos (by simp)]
  refine ⟨by simp,?_⟩
  rw [List.dropLast_concat,List.drop_zero]
  simp [strs]
 ·rw [if_neg (by simpa using hz)]
  exact ⟨by simp,rfl⟩
set_option maxRecDepth 100000 in
set_option maxHeartbeats 4000000 in
theorem reflines_any (l:List UInt8) (hl:l.length<=1000000) (w:World) :
  Calls prog 31 #[strV l] w fun e w'=>∃ v,e=.returned v/\Sl w' No 9 v (linesL l).length (strs (linesL l))/\Mod No w w':=by
 refine calls_hide fun R hR=>?_
 have HSP:=zh (show Calls prog 44 #[strV l,.int .u8 10] w fun e w'=>∃ v,e=.returned v/\w'.ownsRow w.heap.size 9 1 v (splitC 10 l).length (strs (splitC 10 l))/\Mod No w w' from refsplit_any 10 l hl w)
 have HL:=zh (lines_cases l)
 
 unfold strV at *
 generalize (⟨l.toArray⟩:ByteArray)=Z at *
 obtain ⟨k,hk,last,hlast,h1,h2⟩:=HL.out
 have hkl:k<=1000000:=by
  have:=splitC_length_le 10 l
  omega
 rw [hk] at HSP
 have hcl:(strs (splitC 10 l))[k]? = some (.string ⟨last.toArray⟩):=by
  rw [strs,List.getElem?_map,hlast];rfl
 have H1:=zh h1
 have H2:=zh h2
 have hsl:(strs (splitC 10 l)).length=k+1:=by rw [strs_length,hk]
 clear HL h1 h2 hlast hk
 generalize strs (splitC 10 l)=cs at *
 go_enter func31,ntmps31
 go_wp2_with fail
 with_reducible refine HSP.out.mono ?_
 rintro e w1 ⟨v,rfl,hown,hm⟩
 have HS:=zh (Sl.of_own (X:=No) hown (fun _ _ f=>f))
 obtain ⟨gb,go,gc,rfl,hgc,hgm,_⟩:=HS.out.shape (Nat.succ_pos k)
 have hcell:=Sl.cell HS.out (i:=k) (by omega)
 rw [hcl] at hcell
 dsimp only at hcell
 have HM:=zh hm
 have hk0:(0:Int)<=(k:Int):=Int.natCast_nonneg _
 have hgc':(k:Int)<=(gc:Int):=by omega
 have hwk:=wrap_nat (k:=k) (by omega)
 clear hm hown HSP
 have hT:=str_list last
 by_cases hn:last=[]
 ·subst hn
  have HP:=zh (Sl.part HS.out hsl 0 k gc (by omega) (by omega) hgm)
  have H3:=zh (H1.out rfl)
  clear H1 H2
  go_wp2_with fail
  refine fin hR ⟨_,rfl,?_,HM.out⟩
  rw [<- H3.out.1,H3.out.2]
  exact HP.out
 ·have hne:(⟨last.toArray⟩:ByteArray).toList.isEmpty=false:=by rw [hT];simpa using hn
  have hne2:last.isEmpty=false:=by simpa using hn
  have H3:=zh (H2.out hn)
  clear H1 H2
  go_wp2_with fail
  refine fin hR ⟨_,rfl,?_,HM.out⟩
  rw [H3.out.1,H3.out.2]
  exact HS.out
set_option maxRecDepth 100000 in
set_option maxHeartbeats 4000000 in
theorem lines_any (l:List UInt8) (hl:l.length<=1000000) (w:World) (hgl:Gl w) :
  Calls prog 38 #[strV l] w fun e w'=>∃ v,e=.returned v/\Sl w' No 9 v (linesL l).length (strs (linesL l))/\Mod No w w':=by
 refine calls_hide fun R hR=>?_
 have HSP:=zh (show Calls prog 79 #[strV l,.string ⟨#[10]⟩] w fun e w'=>∃ v,e=.returned v/\w'.ownsRow w.heap.size 9 1 v (splitC 10 l).length (strs (splitC 10 l))/\Mod No w w' from split_any 10 l hl w hgl)
 have HL:=zh (lines_cases l)
 clear hgl
 unfold strV at *
 generalize (⟨l.toArray⟩:ByteArray)=Z at *
 obtain ⟨k,hk,last,hlast,h1,h2⟩:=HL.out
 have hkl:k<=1000000:=by
  have:=splitC_length_le 10 l
  omega
 rw [hk] at HSP
 have hcl:(strs (splitC 10 l))[k]? = some (.string ⟨last.toArray⟩):=by
  rw [strs,List.getElem?_map,hlast];rfl
 have H1:=zh h1
 have H2:=zh h2
 have hsl:(strs (splitC 10 l)).length=k+1:=by rw [strs_length,hk]
 clear HL h1 h2 hlast hk
 generalize strs (splitC 10 l)=cs at *
 go_enter func38,ntmps38
 go_wp2_with fail
 with_reducible refine HSP.out.mono ?_
 rintro e w1 ⟨v,rfl,hown,hm⟩
 have HS:=zh (Sl.of_own (X:=No) hown (fun _ _ f=>f))
 obtain ⟨gb,go,gc,rfl,hgc,hgm,_⟩:=HS.out.shape (Nat.succ_pos k)
 have hcell:=Sl.cell HS.out (i:=k) (by omega)
 rw [hcl] at hcell
 dsimp only at hcell
 have HM:=zh hm
 have hk0:(0:Int)<=(k:Int):=Int.natCast_nonneg _
 have hgc':(k:Int)<=(gc:Int):=by omega
 have hwk:=wrap_nat (k:=k) (by omega)
 clear hm hown HSP
 have hT:=str_list last
 by_cases hn:last=[]
 ·subst hn
  have HP:=zh (Sl.part HS.out hsl 0 k gc (by omega) (by omega) hgm)
  have H3:=zh (H1.out rfl)
  clear H1 H2
  go_wp2_with fail
  refine fin hR ⟨_,rfl,?_,HM.out⟩
  rw [<- H3.out.1,H3.out.2]
  exact HP.out
 ·have hne:(⟨last.toArray⟩:ByteArray).toList.isEmpty=false:=by rw [hT];simpa using hn
  have hne2:last.isEmpty=false:=by simpa using hn
  have H3:=zh (H2.out hn)
  clear H1 H2
  go_wp2_with fail
  refine fin hR ⟨_,rfl,?_,HM.out⟩
  rw [H3.out.1,H3.out.2]
  exact HS.out
set_option maxRecDepth 100000 in
theorem silent_any (l:List UInt8) (w:World):Calls prog 39 #[strV l] w fun e w'=>e=.returned (.bool (silentB l))/\w'=w:=by
 refine calls_hide fun R hR=>?_
 have HX:=zh (run_at l)
 have hT:=str_list l
 unfold strV at *
 cases l with
 | nil =>
  clear HX
  go_enter func39,ntmps39
  go_wp2_with fail
  exact fin hR ⟨rfl,rfl⟩
 | cons c r =>
  have hx0:∀ W:World,(Instr.index 9 (.string ⟨(c :: r).toArray⟩) (.int .i64 0)).run prog W=.ok (.int .u8 (c.toNat:Int)) W:=fun W=>HX.out 0 (by simp) W
  have he:(⟨(c :: r).toArray⟩:ByteArray).toList.isEmpty=false:=by rw [hT];rfl
  generalize (⟨(c :: r).toArray⟩:ByteArray)=Z at *
  clear HX
  go_enter func39,ntmps39
  by_cases hc:c=35
  ·subst hc
   have hB:=zh (show silentB (35 :: r)=true from rfl)
   go_wp2_with fail
   exact fin hR ⟨(by rw [hB.out];try rfl),rfl⟩
  ·have hB:=zh (show silentB (c :: r)=false by unfold silentB;simp [hc])
   have hn:((c.toNat:Int) == 35)=false:=by
    have:c.toNat ≠ 35:=fun e=>hc (by rw [<- UInt8.toNat_inj];exact e)
    simp;omega
   generalize (c.toNat:Int)=z at *
   go_wp2_with fail
   exact fin hR ⟨(by rw [hB.out];try rfl),rfl⟩
end Go.Proofs.YtgiigemfbebcgaaGreatDoor
