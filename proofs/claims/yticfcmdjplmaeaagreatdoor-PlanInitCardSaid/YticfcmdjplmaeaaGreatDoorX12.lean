/-
  Layers 0 to 14: helps of the laws of indexes. No statement is proved here; no condition.
-/
import Derived.Test.YticfcmdjplmaeaaGreatDoorX05
import Derived.Test.YticfcmdjplmaeaaGreatDoorX03
import Derived.Test.YticfcmdjplmaeaaGreatDoorX01
import Derived.Test.YticfcmdjplmaeaaGreatDoorX10
set_option maxRecDepth 100000
set_option maxHeartbeats 64000000
namespace Go.Proofs.YticfcmdjplmaeaaGreatDoor
open _root_.Go.Proofs.Tryz
open Go.RowKit
theorem word_any (l:List UInt8) (hl:l.length<=1000000) (w:World) (hgl:Gl w) :
  Calls prog 176 #[strV l] w fun e w'=>((boundsL l=none/\e=.returned (.tuple #[.slice none 0 0,.bool false]))\/∃ bs v,boundsL l=some bs/\e=.returned (.tuple #[v,.bool true])/\BndsX (Old w) w' v bs)/\Mod No w w':=by
 refine calls_hide fun R hR=>?_
 have HB:=zh (show boundsL l=(verOf (l.drop (signL l).length)).map (boundsV (signL l)) from rfl);have HSG:=zh (signed_any l w);have HVO:=zh (fun w h=>verparse_any (l.drop (signL l).length) (by rw [List.length_drop];omega) w h);have HGL:=zh hgl;generalize signL l=sg at *;have HSN:=zh (str_list sg);clear hgl;unfold strV at *;generalize (⟨l.toArray⟩:ByteArray)=Z at *;generalize (⟨sg.toArray⟩:ByteArray)=G at *;generalize (⟨(l.drop sg.length).toArray⟩:ByteArray)=D at *;go_enter func176,ntmps176
 go_wp2_with fail
 with_reducible refine HSG.out.mono ?_
 rintro e w3 ⟨rfl,hm3⟩;have HM3:=zh hm3;have HG3:=zh (HGL.out.stay hm3 (fun f=>f));clear hm3 HGL HSG;go_wp2_with fail
 with_reducible refine (HVO.out _ HG3.out).mono ?_
 rintro e w4 ⟨hv,hm4⟩;rcases hv with ⟨hn,rfl⟩ | ⟨⟨a,b,d,pr⟩,pv,hv,rfl,hp⟩
 ·have HN:=zh (show boundsL l=none by rw [HB.out,hn];rfl);have HM4:=zh (HM3.out.trans hm4);clear hn hm4 HB HVO;go_wp2_with fail
  exact fin hR ⟨.inl ⟨HN.out,rfl⟩,HM4.out.alloc _⟩
 ·have HOK:=zh (verOf_ok hv);have HY:=zh (show boundsL l=some (boundsV sg ⟨a,b,d,pr⟩) by rw [HB.out,hv];rfl);obtain ⟨pa,pc,rfl⟩:=hp.len;dsimp only at *;have HP4:=zh (hp.shrink (Y:=Old w) (fun k _ h=>Nat.lt_of_lt_of_le h HM3.out.size));have HM4:=zh (HM3.out.trans hm4);clear hv hm4 hp HB HVO HM3;go_upto_region 3 with fail
  obtain ⟨gv,hgv⟩:∃ g,g=w4.heap.size:=⟨_,rfl⟩
  rw [<- hgv];generalize hw6:World.alloc w4 _=w6;have HM6:=zh (show Mod No w w6 by rw [<- hw6];exact HM4.out.alloc _);have HP6:=zh (show Sl w6 (Old w) 9 (.slice pa pr.length pc) pr.length (strs pr) by rw [<- hw6];exact HP4.out.keep (S:=No) ((Mod.refl No w4).alloc _) (fun _ _ _ f=>f.elim));have HV6:=zh (show w6.heap[gv]? = some (.cells #[.int .i64 a,.int .i64 b,.int .i64 d,.slice pa pr.length pc] 40 (0,0)) by rw [<- hw6,hgv];exact heap_alloc_new w4 _);clear hw6 hgv HM4 HP4;obtain ⟨⟨c0,c1,c2,c3⟩,-⟩:=cells4 HV6.out;by_cases s0:sg=[]
  ·subst s0;have hg:G.toList=[]:=HSN.out;have HY6:=zh (show boundsL l=some [⟨[61],⟨a,b,d,pr⟩⟩] by rw [HY.out];rfl);clear HSN HY HOK;go_wp2_with fail
   exact fin hR ⟨.inr ⟨_,_,HY6.out,rfl,bndsX_new w6 [⟨⟨[61],⟨a,b,d,pr⟩⟩,.slice pa pr.length pc⟩] (fun x hx=>by
    rcases List.mem_cons.1 hx with rfl | hx
    ·exact HP6.out
    ·cases hx) (Nat.le_of_ble_eq_true rfl) (fun h=>Nat.lt_irrefl _ (Nat.lt_of_lt_of_le h HM6.out.size))⟩,HM6.out.alloc _⟩
  ·have hg0:G.toList.isEmpty=false:=by rw [HSN.out];simpa using s0
   by_cases s1:sg=[94]
   ·subst s1;have hg:G.toList=[94]:=HSN.out;have HYC:=zh (show boundsL l=some [⟨[62,61],⟨a,b,d,pr⟩⟩,⟨[60],nextV ⟨a,b,d,pr⟩ (if 0 < a then 0 else if 0 < b then 1 else 2)⟩] by rw [HY.out];rfl);have hb0:=HOK.out.mi.1;dsimp only at hb0;clear HSN HY hg0 s0;by_cases ha:0 < a
    ·have hyc:=HYC.out;rw [if_pos ha] at hyc;clear HYC;have HY6:=zh hyc;have HNX:=zh (show ∀ w,Calls prog 228 #[.agg #[.int .i64 a,.int .i64 b,.int .i64 d,.slice pa pr.length pc],.int .i64 0] w fun e w'=>e=.returned (verV (nextV ⟨a,b,d,pr⟩ 0) (.slice none 0 0))/\Mod No w w' from fun w=>next_any ⟨a,b,d,pr⟩ (.slice pa pr.length pc) 0 (by decide) HOK.out w);have HNP:=zh (nextV_pre ⟨a,b,d,pr⟩ 0);generalize nextV ⟨a,b,d,pr⟩ 0=nx at *;obtain ⟨n0,n1,n2,npr⟩:=nx;obtain rfl:npr=[]:=HNP.out;clear HNP;go_upto_region 15 with fail
     obtain ⟨wA,hwA⟩:∃ z,z=w6.drew:=⟨_,rfl⟩
     have HMA:=zh (show Mod No w wA by rw [hwA];exact HM6.out.drew);have HPA:=zh (show Sl wA (Old w) 9 (.slice pa pr.length pc) pr.length (strs pr) by rw [hwA];exact HP6.out.keep (S:=No) (Mod.refl No w6).drew (fun _ _ _ f=>f.elim));have HSM:=zh (show ∀ w',Mod No wA w'->w'.cell? ⟨gv,0,none⟩=some (.int .i64 a)/\w'.cell? ⟨gv,1,none⟩=some (.int .i64 b)/\w'.cell? ⟨gv,2,none⟩=some (.int .i64 d)/\w'.cell? ⟨gv,3,none⟩=some (.slice pa pr.length pc) from fun w' hm=>by
      have hm6:Mod No w6 w':=by rw [hwA] at hm;exact (Mod.refl No w6).drew.trans hm
      have hv:=hm6.keep HV6.out (fun f=>f);exact ⟨cell_ofA hv rfl,cell_ofA hv rfl,cell_ofA hv rfl,cell_ofA hv rfl⟩)
     have hS0:=HSM.out wA (Mod.refl _ _);have HWA:=zh hwA;clear hwA c0 c1 c2 c3 HM6 HP6 HV6;refine wp_region_T (fun w'=>w'.cell? ⟨gv,0,none⟩=some (.int .i64 a)/\w'.cell? ⟨gv,1,none⟩=some (.int .i64 b)/\w'.cell? ⟨gv,2,none⟩=some (.int .i64 d)/\w'.cell? ⟨gv,3,none⟩=some (.slice pa pr.length pc)) 99 (by kernel_rfl) ?_;rw [<- HWA.out];clear HWA;refine yS 0 39 hS0 ?_;refine yS 1 40 hS0 ?_;refine yS 2 41 hS0 ?_;refine yS 3 42 hS0 ?_;refine wpAnyT_one 4 rfl (by kernel_rfl) rfl ?_;intro K hK;go_simp
     go_at_call 228
     with_reducible refine (HNX.out _).mono ?_
     rintro e wB ⟨rfl,hB⟩;have HMB:=zh hB;clear hB;show K _ _
     have hS1:=HSM.out wB HMB.out;refine hK.out _ _ (fun _=>hS1) ?_;clear hK K;refine yS 5 44 hS1 ?_;refine wpAnyT_one 6 rfl (by kernel_rfl) rfl ?_;intro K hK;go_simp
     show K _ _
     have hS2:=HSM.out (wB.alloc (.cells #[.string ⟨#[62,61]⟩,.int .i64 a,.int .i64 b,.int .i64 d,.slice pa pr.length pc,.string ⟨#[60]⟩,.int .i64 n0,.int .i64 n1,.int .i64 n2,.slice none 0 0] 237)) (HMB.out.alloc _);refine hK.out _ _ (fun _=>hS2) ?_;clear hK K;refine yS 7 2 hS2 ?_;refine yT 8 (some 3) ?_ hS2 ?_ ?_;rotate_left
     ·(intro w' hSw;obtain ⟨q0,q1,q2,q3⟩:=hSw;go_simp;try with_reducible rfl)
     simp only [Act.put];refine wpAnyT_done (by kernel_rfl) ?_ _
     go_wp2_with fail
     exact fin hR ⟨.inr ⟨_,_,HY6.out,rfl,bndsX_new wB [⟨⟨[62,61],⟨a,b,d,pr⟩⟩,.slice pa pr.length pc⟩,⟨⟨[60],⟨n0,n1,n2,[]⟩⟩,.slice none 0 0⟩] (fun x hx=>by
      rcases List.mem_cons.1 hx with rfl | hx
      ·exact HPA.out.keep (S:=No) HMB.out (fun _ _ _ f=>f.elim)
      ·rcases List.mem_cons.1 hx with rfl | hx
       ·exact .inl ⟨rfl,rfl,rfl⟩
       ·cases hx) (Nat.le_of_ble_eq_true rfl) (fun h=>Nat.lt_irrefl _ (Nat.lt_of_lt_of_le h (HMA.out.trans HMB.out).size))⟩,HMA.out.trans (HMB.out.alloc _)⟩
    ·have ha':a<=0:=by omega
     by_cases hb:0 < b
     ·have hyc:=HYC.out;rw [if_neg ha,if_pos hb] at hyc;have hbb:(b == 0)=false:=by simp;omega
      clear HYC;have HY6:=zh hyc;have HNX:=zh (show ∀ w,Calls prog 228 #[.agg #[.int .i64 a,.int .i64 b,.int .i64 d,.slice pa pr.length pc],.int .i64 1] w fun e w'=>e=.returned (verV (nextV ⟨a,b,d,pr⟩ 1) (.slice none 0 0))/\Mod No w w' from fun w=>next_any ⟨a,b,d,pr⟩ (.slice pa pr.length pc) 1 (by decide) HOK.out w);have HNP:=zh (nextV_pre ⟨a,b,d,pr⟩ 1);generalize nextV ⟨a,b,d,pr⟩ 1=nx at *;obtain ⟨n0,n1,n2,npr⟩:=nx;obtain rfl:npr=[]:=HNP.out;clear HNP;go_upto_region 15 with fail
      obtain ⟨wA,hwA⟩:∃ z,z=w6.drew:=⟨_,rfl⟩
      have HMA:=zh (show Mod No w wA by rw [hwA];exact HM6.out.drew);have HPA:=zh (show Sl wA (Old w) 9 (.slice pa pr.length pc) pr.length (strs pr) by rw [hwA];exact HP6.out.keep (S:=No) (Mod.refl No w6).drew (fun _ _ _ f=>f.elim));have HSM:=zh (show ∀ w',Mod No wA w'->w'.cell? ⟨gv,0,none⟩=some (.int .i64 a)/\w'.cell? ⟨gv,1,none⟩=some (.int .i64 b)/\w'.cell? ⟨gv,2,none⟩=some (.int .i64 d)/\w'.cell? ⟨gv,3,none⟩=some (.slice pa pr.length pc) from fun w' hm=>by
       have hm6:Mod No w6 w':=by rw [hwA] at hm;exact (Mod.refl No w6).drew.trans hm
       have hv:=hm6.keep HV6.out (fun f=>f);exact ⟨cell_ofA hv rfl,cell_ofA hv rfl,cell_ofA hv rfl,cell_ofA hv rfl⟩)
      have hS0:=HSM.out wA (Mod.refl _ _);have HWA:=zh hwA;clear hwA c0 c1 c2 c3 HM6 HP6 HV6;refine wp_region_T (fun w'=>w'.cell? ⟨gv,0,none⟩=some (.int .i64 a)/\w'.cell? ⟨gv,1,none⟩=some (.int .i64 b)/\w'.cell? ⟨gv,2,none⟩=some (.int .i64 d)/\w'.cell? ⟨gv,3,none⟩=some (.slice pa pr.length pc)) 99 (by kernel_rfl) ?_;rw [<- HWA.out];clear HWA;refine yS 0 39 hS0 ?_;refine yS 1 40 hS0 ?_;refine yS 2 41 hS0 ?_;refine yS 3 42 hS0 ?_;refine wpAnyT_one 4 rfl (by kernel_rfl) rfl ?_;intro K hK;go_simp
      go_at_call 228
      with_reducible refine (HNX.out _).mono ?_
      rintro e wB ⟨rfl,hB⟩;have HMB:=zh hB;clear hB;show K _ _
      have hS1:=HSM.out wB HMB.out;refine hK.out _ _ (fun _=>hS1) ?_;clear hK K;refine yS 5 44 hS1 ?_;refine wpAnyT_one 6 rfl (by kernel_rfl) rfl ?_;intro K hK;go_simp
      show K _ _
      have hS2:=HSM.out (wB.alloc (.cells #[.string ⟨#[62,61]⟩,.int .i64 a,.int .i64 b,.int .i64 d,.slice pa pr.length pc,.string ⟨#[60]⟩,.int .i64 n0,.int .i64 n1,.int .i64 n2,.slice none 0 0] 237)) (HMB.out.alloc _);refine hK.out _ _ (fun _=>hS2) ?_;clear hK K;refine yS 7 2 hS2 ?_;refine yT 8 (some 3) ?_ hS2 ?_ ?_;rotate_left
      ·(intro w' hSw;obtain ⟨q0,q1,q2,q3⟩:=hSw;go_simp;try with_reducible rfl)
      simp only [Act.put];refine wpAnyT_done (by kernel_rfl) ?_ _
      go_wp2_with fail
      exact fin hR ⟨.inr ⟨_,_,HY6.out,rfl,bndsX_new wB [⟨⟨[62,61],⟨a,b,d,pr⟩⟩,.slice pa pr.length pc⟩,⟨⟨[60],⟨n0,n1,n2,[]⟩⟩,.slice none 0 0⟩] (fun x hx=>by
       rcases List.mem_cons.1 hx with rfl | hx
       ·exact HPA.out.keep (S:=No) HMB.out (fun _ _ _ f=>f.elim)
       ·rcases List.mem_cons.1 hx with rfl | hx
        ·exact .inl ⟨rfl,rfl,rfl⟩
        ·cases hx) (Nat.le_of_ble_eq_true rfl) (fun h=>Nat.lt_irrefl _ (Nat.lt_of_lt_of_le h (HMA.out.trans HMB.out).size))⟩,HMA.out.trans (HMB.out.alloc _)⟩
     ·obtain rfl:b=0:=by omega
      have hyc:=HYC.out;rw [if_neg ha,if_neg hb] at hyc;clear HYC hb;have HY6:=zh hyc;have HNX:=zh (show ∀ w,Calls prog 228 #[.agg #[.int .i64 a,.int .i64 0,.int .i64 d,.slice pa pr.length pc],.int .i64 2] w fun e w'=>e=.returned (verV (nextV ⟨a,0,d,pr⟩ 2) (.slice none 0 0))/\Mod No w w' from fun w=>next_any ⟨a,0,d,pr⟩ (.slice pa pr.length pc) 2 (by decide) HOK.out w);have HNP:=zh (nextV_pre ⟨a,0,d,pr⟩ 2);generalize nextV ⟨a,0,d,pr⟩ 2=nx at *;obtain ⟨n0,n1,n2,npr⟩:=nx;obtain rfl:npr=[]:=HNP.out;clear HNP;go_upto_region 15 with fail
      obtain ⟨wA,hwA⟩:∃ z,z=w6.drew:=⟨_,rfl⟩
      have HMA:=zh (show Mod No w wA by rw [hwA];exact HM6.out.drew);have HPA:=zh (show Sl wA (Old w) 9 (.slice pa pr.length pc) pr.length (strs pr) by rw [hwA];exact HP6.out.keep (S:=No) (Mod.refl No w6).drew (fun _ _ _ f=>f.elim));have HSM:=zh (show ∀ w',Mod No wA w'->w'.cell? ⟨gv,0,none⟩=some (.int .i64 a)/\w'.cell? ⟨gv,1,none⟩=some (.int .i64 0)/\w'.cell? ⟨gv,2,none⟩=some (.int .i64 d)/\w'.cell? ⟨gv,3,none⟩=some (.slice pa pr.length pc) from fun w' hm=>by
       have hm6:Mod No w6 w':=by rw [hwA] at hm;exact (Mod.refl No w6).drew.trans hm
       have hv:=hm6.keep HV6.out (fun f=>f);exact ⟨cell_ofA hv rfl,cell_ofA hv rfl,cell_ofA hv rfl,cell_ofA hv rfl⟩)
      have hS0:=HSM.out wA (Mod.refl _ _);have HWA:=zh hwA;clear hwA c0 c1 c2 c3 HM6 HP6 HV6;refine wp_region_T (fun w'=>w'.cell? ⟨gv,0,none⟩=some (.int .i64 a)/\w'.cell? ⟨gv,1,none⟩=some (.int .i64 0)/\w'.cell? ⟨gv,2,none⟩=some (.int .i64 d)/\w'.cell? ⟨gv,3,none⟩=some (.slice pa pr.length pc)) 99 (by kernel_rfl) ?_;rw [<- HWA.out];clear HWA;refine yS 0 39 hS0 ?_;refine yS 1 40 hS0 ?_;refine yS 2 41 hS0 ?_;refine yS 3 42 hS0 ?_;refine wpAnyT_one 4 rfl (by kernel_rfl) rfl ?_;intro K hK;go_simp
      go_at_call 228
      with_reducible refine (HNX.out _).mono ?_
      rintro e wB ⟨rfl,hB⟩;have HMB:=zh hB;clear hB;show K _ _
      have hS1:=HSM.out wB HMB.out;refine hK.out _ _ (fun _=>hS1) ?_;clear hK K;refine yS 5 44 hS1 ?_;refine wpAnyT_one 6 rfl (by kernel_rfl) rfl ?_;intro K hK;go_simp
      show K _ _
      have hS2:=HSM.out (wB.alloc (.cells #[.string ⟨#[62,61]⟩,.int .i64 a,.int .i64 0,.int .i64 d,.slice pa pr.length pc,.string ⟨#[60]⟩,.int .i64 n0,.int .i64 n1,.int .i64 n2,.slice none 0 0] 237)) (HMB.out.alloc _);refine hK.out _ _ (fun _=>hS2) ?_;clear hK K;refine yS 7 2 hS2 ?_;refine yT 8 (some 3) ?_ hS2 ?_ ?_;rotate_left
      ·(intro w' hSw;obtain ⟨q0,q1,q2,q3⟩:=hSw;go_simp;try with_reducible rfl)
      simp only [Act.put];refine wpAnyT_done (by kernel_rfl) ?_ _
      go_wp2_with fail
      exact fin hR ⟨.inr ⟨_,_,HY6.out,rfl,bndsX_new wB [⟨⟨[62,61],⟨a,0,d,pr⟩⟩,.slice pa pr.length pc⟩,⟨⟨[60],⟨n0,n1,n2,[]⟩⟩,.slice none 0 0⟩] (fun x hx=>by
       rcases List.mem_cons.1 hx with rfl | hx
       ·exact HPA.out.keep (S:=No) HMB.out (fun _ _ _ f=>f.elim)
       ·rcases List.mem_cons.1 hx with rfl | hx
        ·exact .inl ⟨rfl,rfl,rfl⟩
        ·cases hx) (Nat.le_of_ble_eq_true rfl) (fun h=>Nat.lt_irrefl _ (Nat.lt_of_lt_of_le h (HMA.out.trans HMB.out).size))⟩,HMA.out.trans (HMB.out.alloc _)⟩
   ·have hg1:(G.toList == [94])=false:=by rw [HSN.out];simpa using s1
    by_cases s2:sg=[126]
    ·subst s2;have hg:G.toList=[126]:=HSN.out;have hyc:boundsL l=some [⟨[62,61],⟨a,b,d,pr⟩⟩,⟨[60],nextV ⟨a,b,d,pr⟩ 1⟩]:=by rw [HY.out];rfl
     clear HSN HY hg0 s0 hg1 s1;have HY6:=zh hyc;have HNX:=zh (show ∀ w,Calls prog 228 #[.agg #[.int .i64 a,.int .i64 b,.int .i64 d,.slice pa pr.length pc],.int .i64 1] w fun e w'=>e=.returned (verV (nextV ⟨a,b,d,pr⟩ 1) (.slice none 0 0))/\Mod No w w' from fun w=>next_any ⟨a,b,d,pr⟩ (.slice pa pr.length pc) 1 (by decide) HOK.out w);have HNP:=zh (nextV_pre ⟨a,b,d,pr⟩ 1);generalize nextV ⟨a,b,d,pr⟩ 1=nx at *;obtain ⟨n0,n1,n2,npr⟩:=nx;obtain rfl:npr=[]:=HNP.out;clear HNP;go_upto_region 15 with fail
     obtain ⟨wA,hwA⟩:∃ z,z=w6.drew:=⟨_,rfl⟩
     have HMA:=zh (show Mod No w wA by rw [hwA];exact HM6.out.drew);have HPA:=zh (show Sl wA (Old w) 9 (.slice pa pr.length pc) pr.length (strs pr) by rw [hwA];exact HP6.out.keep (S:=No) (Mod.refl No w6).drew (fun _ _ _ f=>f.elim));have HSM:=zh (show ∀ w',Mod No wA w'->w'.cell? ⟨gv,0,none⟩=some (.int .i64 a)/\w'.cell? ⟨gv,1,none⟩=some (.int .i64 b)/\w'.cell? ⟨gv,2,none⟩=some (.int .i64 d)/\w'.cell? ⟨gv,3,none⟩=some (.slice pa pr.length pc) from fun w' hm=>by
      have hm6:Mod No w6 w':=by rw [hwA] at hm;exact (Mod.refl No w6).drew.trans hm
      have hv:=hm6.keep HV6.out (fun f=>f);exact ⟨cell_ofA hv rfl,cell_ofA hv rfl,cell_ofA hv rfl,cell_ofA hv rfl⟩)
     have hS0:=HSM.out wA (Mod.refl _ _);have HWA:=zh hwA;clear hwA c0 c1 c2 c3 HM6 HP6 HV6;refine wp_region_T (fun w'=>w'.cell? ⟨gv,0,none⟩=some (.int .i64 a)/\w'.cell? ⟨gv,1,none⟩=some (.int .i64 b)/\w'.cell? ⟨gv,2,none⟩=some (.int .i64 d)/\w'.cell? ⟨gv,3,none⟩=some (.slice pa pr.length pc)) 99 (by kernel_rfl) ?_;rw [<- HWA.out];clear HWA;refine yS 0 39 hS0 ?_;refine yS 1 40 hS0 ?_;refine yS 2 41 hS0 ?_;refine yS 3 42 hS0 ?_;refine wpAnyT_one 4 rfl (by kernel_rfl) rfl ?_;intro K hK;go_simp
     go_at_call 228
     with_reducible refine (HNX.out _).mono ?_
     rintro e wB ⟨rfl,hB⟩;have HMB:=zh hB;clear hB;show K _ _
     have hS1:=HSM.out wB HMB.out;refine hK.out _ _ (fun _=>hS1) ?_;clear hK K;refine yS 5 44 hS1 ?_;refine wpAnyT_one 6 rfl (by kernel_rfl) rfl ?_;intro K hK;go_simp
     show K _ _
     have hS2:=HSM.out (wB.alloc (.cells #[.string ⟨#[62,61]⟩,.int .i64 a,.int .i64 b,.int .i64 d,.slice pa pr.length pc,.string ⟨#[60]⟩,.int .i64 n0,.int .i64 n1,.int .i64 n2,.slice none 0 0] 237)) (HMB.out.alloc _);refine hK.out _ _ (fun _=>hS2) ?_;clear hK K;refine yS 7 2 hS2 ?_;refine yT 8 (some 3) ?_ hS2 ?_ ?_;rotate_left
     ·(intro w' hSw;obtain ⟨q0,q1,q2,q3⟩:=hSw;go_simp;try with_reducible rfl)
     simp only [Act.put];refine wpAnyT_done (by kernel_rfl) ?_ _
     go_wp2_with fail
     exact fin hR ⟨.inr ⟨_,_,HY6.out,rfl,bndsX_new wB [⟨⟨[62,61],⟨a,b,d,pr⟩⟩,.slice pa pr.length pc⟩,⟨⟨[60],⟨n0,n1,n2,[]⟩⟩,.slice none 0 0⟩] (fun x hx=>by
      rcases List.mem_cons.1 hx with rfl | hx
      ·exact HPA.out.keep (S:=No) HMB.out (fun _ _ _ f=>f.elim)
      ·rcases List.mem_cons.1 hx with rfl | hx
       ·exact .inl ⟨rfl,rfl,rfl⟩
       ·cases hx) (Nat.le_of_ble_eq_true rfl) (fun h=>Nat.lt_irrefl _ (Nat.lt_of_lt_of_le h (HMA.out.trans HMB.out).size))⟩,HMA.out.trans (HMB.out.alloc _)⟩
    ·have hg2:(G.toList == [126])=false:=by rw [HSN.out];simpa using s2
     have HY6:=zh (show boundsL l=some [⟨sg,⟨a,b,d,pr⟩⟩] by rw [HY.out];unfold boundsV;rw [if_neg s0,if_neg s1,if_neg s2]);have HGS:=zh (show (Value.string G)=.string ⟨sg.toArray⟩ from congrArg Value.string (bytes_of_list HSN.out));clear HY HOK HSN s0 s1 s2;go_wp2_with fail
     rw [HGS.out];exact fin hR ⟨.inr ⟨_,_,HY6.out,rfl,bndsX_new w6 [⟨⟨sg,⟨a,b,d,pr⟩⟩,.slice pa pr.length pc⟩] (fun x hx=>by
      rcases List.mem_cons.1 hx with rfl | hx
      ·exact HP6.out
      ·cases hx) (Nat.le_of_ble_eq_true rfl) (fun h=>Nat.lt_irrefl _ (Nat.lt_of_lt_of_le h HM6.out.size))⟩,HM6.out.alloc _⟩
end Go.Proofs.YticfcmdjplmaeaaGreatDoor
