/-
  Layers 0 to 14: helps of the laws of indexes. No statement is proved here; no condition.
-/
import Derived.Test.YtgiigemfbebcgaaGreatDoorT22
import Derived.Test.YtgiigemfbebcgaaGreatDoorT09
import Derived.Test.YtgiigemfbebcgaaGreatDoorT02
import Derived.Test.YtgiigemfbebcgaaGreatDoorT13
import Derived.Test.YtgiigemfbebcgaaGreatDoorT01
namespace Go.Proofs.YtgiigemfbebcgaaGreatDoor
open _root_.Go.Proofs.Tryz
open Go.RowKit
theorem sign_cases (l:List UInt8) (h0:0 < l.length):((l.take 2=[60,61]\/l.take 2=[62,61])->signL l=l.take 2) ∧
  (l.take 2 ≠ [60,61]->l.take 2 ≠ [62,61]->((l[0].toNat:Int)=61\/(l[0].toNat:Int)=60\/(l[0].toNat:Int)=62\/(l[0].toNat:Int)=94\/(l[0].toNat:Int)=126)->signL l=l.take 1) ∧
  (l.take 2 ≠ [60,61]->l.take 2 ≠ [62,61]->¬ ((l[0].toNat:Int)=61\/(l[0].toNat:Int)=60\/(l[0].toNat:Int)=62\/(l[0].toNat:Int)=94\/(l[0].toNat:Int)=126)->signL l=[]):=by
 have hb:∀ n:Nat,n < 256->((l[0].toNat:Int)=(n:Int) ↔ l.take 1=[UInt8.ofNat n]):=fun n hn=>by
  have e1:l.take 1=[l[0]]:=by
   cases l with
   | nil=>simp at h0
   | cons a b=>rfl
  rw [e1]
  constructor
  ·intro h
   have h2:l[0].toNat=n:=by omega
   rw [<- h2,UInt8.ofNat_toNat]
  ·intro h
   have h2:l[0]=UInt8.ofNat n:=by simpa using h
   rw [h2,UInt8.toNat_ofNat']
   omega
 have b1:=hb 61 (by omega)
 have b2:=hb 60 (by omega)
 have b3:=hb 62 (by omega)
 have b4:=hb 94 (by omega)
 have b5:=hb 126 (by omega)
 unfold signL
 refine ⟨fun h=>if_pos h,fun h h2 h3=>?_,fun h h2 h3=>?_⟩
 ·rw [if_neg (by rintro (e | e);exact h e;exact h2 e),if_pos]
  rcases h3 with e | e | e | e | e
  ·exact .inr (.inr (.inl (b1.1 e)))
  ·exact .inl (b2.1 e)
  ·exact .inr (.inl (b3.1 e))
  ·exact .inr (.inr (.inr (.inl (b4.1 e))))
  ·exact .inr (.inr (.inr (.inr (b5.1 e))))
 ·rw [if_neg (by rintro (e | e);exact h e;exact h2 e),if_neg]
  rintro (e | e | e | e | e)
  ·exact h3 (.inr (.inl (b2.2 e)))
  ·exact h3 (.inr (.inr (.inl (b3.2 e))))
  ·exact h3 (.inl (b1.2 e))
  ·exact h3 (.inr (.inr (.inr (.inl (b4.2 e)))))
  ·exact h3 (.inr (.inr (.inr (.inr (b5.2 e)))))
theorem signL_le (l:List UInt8):(signL l).length<=l.length:=by
 unfold signL
 split
 ·rw [List.length_take];omega
 ·split
  ·rw [List.length_take];omega
  ·simp
theorem nextV_pre (v:Ver) (p:Nat):(nextV v p).pre=[]:=by
 unfold nextV
 split
 ·split <;> rfl
 ·split
  ·split <;> rfl
  ·split <;> rfl
theorem bytes_of_list {G:ByteArray} {l:List UInt8} (h:G.toList=l):G=⟨l.toArray⟩:=by
 rw [<- h,ByteArray.toList_eq]
noncomputable def bodyBn:Code:=Tryz.f78.body.getD .skip
noncomputable def blkBn:Code:=(blockAt 0 bodyBn).getD .skip
set_option maxRecDepth 100000 in
theorem lit94 (t:Array Value) (h:t.size=94):∃ c:Nat->Value,t=#[c 0,c 1,c 2,c 3,c 4,c 5,c 6,c 7,c 8,c 9,c 10,c 11,c 12,c 13,c 14,c 15,c 16,c 17,c 18,c 19,c 20,c 21,c 22,c 23,c 24,c 25,c 26,c 27,c 28,c 29,c 30,c 31,c 32,c 33,c 34,c 35,c 36,c 37,c 38,c 39,c 40,c 41,c 42,c 43,c 44,c 45,c 46,c 47,c 48,c 49,c 50,c 51,c 52,c 53,c 54,c 55,c 56,c 57,c 58,c 59,c 60,c 61,c 62,c 63,c 64,c 65,c 66,c 67,c 68,c 69,c 70,c 71,c 72,c 73,c 74,c 75,c 76,c 77,c 78,c 79,c 80,c 81,c 82,c 83,c 84,c 85,c 86,c 87,c 88,c 89,c 90,c 91,c 92,c 93]/\∀ i,t.getD i undef=c i:=by
 refine ⟨fun i=>t.getD i undef,?_,fun _=>rfl⟩
 have h1:=arr_lits t
 rw [h] at h1
 exact h1.trans (by kernel_rfl)
set_option maxRecDepth 100000 in
set_option maxHeartbeats 4000000 in
theorem refsign_any (l:List UInt8) (hl:l ≠ []) (f:Act) (w:World) (hF:Fr 94 [(0,strV l),(4,.string ⟨#[]⟩)] f) :
  Code.wp prog blkBn (Exit.then (fun a' w'=>w'=w/\Fr 94 [(0,strV l),(4,strV (signL l))] a') Nope) f w:=by
 refine wp_part fun J K' hJ hK=>?_
 have HJ:=zh hJ
 have HX:=zh (run_at l)
 have HEX:=zh (str_to l)
 have HZ:=zh (str_len3 l)
 have h0:0 < l.length:=by cases l with | nil=>exact absurd rfl hl | cons a b=>simp
 clear hJ
 unfold strV at *
 generalize hZe:(⟨l.toArray⟩:ByteArray)=Z at *
 have hZs:(Z.size:Int)=(l.length:Int):=by rw [HZ.out]
 obtain ⟨z0,hz0⟩:∃ z:Int,z=(l[0].toNat:Int):=⟨_,rfl⟩
 have hx0:∀ W:World,(Instr.index 9 (.string Z) (.int .i64 0)).run prog W=.ok (.int .u8 z0) W:=fun W=>by rw [hz0];exact HX.out 0 h0 W
 have HS:=zh (sign_cases l h0)
 have hx2:=HEX.out 2
 have hx1:=HEX.out 1
 obtain ⟨ts,ds⟩:=f
 obtain ⟨hsz,hds,hs0,hs4,-⟩:=hF
 dsimp only at hsz hds hs0 hs4
 subst hds
 obtain ⟨c,rfl,hc⟩:=lit94 ts hsz
 rw [hc] at hs0
 rw [hc] at hs4
 simp only [hs0,hs4]
 clear hc hsz hs0 hs4
 have HA:=zh (show (⟨(l.take 2).toArray⟩:ByteArray).toList=[60,61]\/(⟨(l.take 2).toArray⟩:ByteArray).toList=[62,61]->Value.string ⟨(l.take 2).toArray⟩=.string ⟨(signL l).toArray⟩ from fun h=>by
  rw [str_list] at h;rw [HS.out.1 h])
 have HB:=zh (show (⟨(l.take 2).toArray⟩:ByteArray).toList ≠ [60,61]->(⟨(l.take 2).toArray⟩:ByteArray).toList ≠ [62,61]->(z0=61\/z0=60\/z0=62\/z0=94\/z0=126)->Value.string ⟨(l.take 1).toArray⟩=.string ⟨(signL l).toArray⟩ from fun h h2 h3=>by
  rw [str_list] at h h2;rw [HS.out.2.1 h h2 (by rw [hz0] at h3;exact h3)])
 have HC:=zh (show (⟨(l.take 2).toArray⟩:ByteArray).toList ≠ [60,61]->(⟨(l.take 2).toArray⟩:ByteArray).toList ≠ [62,61]->¬ (z0=61\/z0=60\/z0=62\/z0=94\/z0=126)->Value.string ⟨#[]⟩=.string ⟨(signL l).toArray⟩ from fun h h2 h3=>by
  rw [str_list] at h h2;rw [HS.out.2.2 h h2 (by rw [hz0] at h3;exact h3)])
 have HL2:=zh (show l.length<=1->(⟨(l.take 2).toArray⟩:ByteArray).toList ≠ [60,61]/\(⟨(l.take 2).toArray⟩:ByteArray).toList ≠ [62,61] from fun h=>by
  rw [str_list]
  constructor <;> (intro e;have:=congrArg List.length e;rw [List.length_take] at this;simp at this;omega))
 generalize (⟨(l.take 2).toArray⟩:ByteArray)=T2 at *
 generalize (⟨(l.take 1).toArray⟩:ByteArray)=T1 at *
 clear hz0 HS HX HEX
 conv=>arg 2;whnf
 by_cases h1:1 < l.length
 ·have h1':(1:Int) < (Z.size:Int):=by omega
  clear HL2
  go_wp2_with fail
  all_goals refine Met.intro (HJ.out _ _ ⟨rfl,rfl,rfl,rfl,?_,trivial⟩)
  all_goals first
   | exact HA.out (by first | (left;assumption) | (right;assumption) | simp_all)
   | exact HB.out (by simp_all) (by simp_all) (by simp_all)
   | exact HC.out (by simp_all) (by simp_all) (by simp_all)
 ·have h1':(Z.size:Int)<=1:=by omega
  have h2':(1:Int)<=(Z.size:Int):=by omega
  obtain ⟨hn1,hn2⟩:=HL2.out (by omega)
  clear HL2
  go_wp2_with fail
  all_goals refine Met.intro (HJ.out _ _ ⟨rfl,rfl,rfl,rfl,?_,trivial⟩)
  all_goals first
   | exact HB.out hn1 hn2 (by simp_all)
   | exact HC.out hn1 hn2 (by simp_all)
theorem verOf_ok {l:List UInt8} {v:Ver} (h:verOf l=some v):VerOk v:=by
 match hs:splitC 46 (headC 45 l) with
 | [a,b,c] =>
  rw [verOf_three hs] at h
  by_cases hc:(numB a && numB b && numB c && preOk l)=true
  ·rw [if_pos hc] at h
   obtain rfl:=Option.some.inj h
   simp only [Bool.and_eq_true] at hc
   obtain ⟨⟨⟨h1,h2⟩,h3⟩,-⟩:=hc
   have k:∀ x:List UInt8,numB x=true->0<=(decV x:Int)/\(decV x:Int)<=999999999:=fun x hx=>by
    have e:(digitsB x && decide (x.length<=9) && plainB x)=true:=hx
    simp only [Bool.and_eq_true,decide_eq_true_eq] at e
    obtain ⟨⟨d1,d2⟩,-⟩:=e
    have d3:x.all dig=true:=by
     unfold digitsB at d1
     simp only [Bool.and_eq_true] at d1
     exact d1.1
    have:=decV_lt _ x rfl d3
    have h10:10 ^ x.length<=10 ^ 9:=Nat.pow_le_pow_right (by omega) d2
    omega
   exact ⟨k a h1,k b h2,k c h3⟩
  ·rw [if_neg hc] at h;cases h
 | []=>rw [verOf_len (by rw [hs];decide)] at h;cases h
 | [_]=>rw [verOf_len (by rw [hs];simp)] at h;cases h
 | [_,_]=>rw [verOf_len (by rw [hs];simp)] at h;cases h
 | _ :: _ :: _ :: _ :: _=>rw [verOf_len (by rw [hs];simp)] at h;cases h
set_option maxRecDepth 100000 in
set_option maxHeartbeats 8000000 in
theorem refbounds_any (l:List UInt8) (hl0:l ≠ []) (hl:l.length<=1000000) (w:World) :
  Calls prog 78 #[strV l] w fun e w'=>((boundsL l=none/\e=.returned (.tuple #[.slice none 0 0,.bool false]))\/∃ bs v,boundsL l=some bs/\e=.returned (.tuple #[v,.bool true])/\BndsAt w' v bs)/\Mod No w w':=by
 refine calls_hide fun R hR=>?_
 have HB:=zh (show boundsL l=(verOf (l.drop (signL l).length)).map (boundsV (signL l)) from rfl)
 have HSG:=zh (refsign_any l hl0)
 have HVO:=zh (fun w=>versionof_any (l.drop (signL l).length) (by rw [List.length_drop];omega) w)
 have HEF:=zh (str_from l)
 have HZ:=zh (str_len3 l)
 have HSL:=zh (show (signL l).length<=l.length from signL_le l)
 obtain ⟨sg,hsg⟩:∃ sg,sg=signL l:=⟨_,rfl⟩
 rw [<- hsg] at HB HSG HVO HSL
 have HSS:=zh (str_len3 sg)
 have HSN:=zh (str_list sg)
 clear hsg
 unfold strV at *
 have hZe:(⟨l.toArray⟩:ByteArray).size=l.length:=HZ.out
 have hfrom:=HEF.out sg.length
 clear hZe HEF
 generalize (⟨l.toArray⟩:ByteArray)=Z at *
 generalize (⟨sg.toArray⟩:ByteArray)=G at *
 generalize (⟨(l.drop sg.length).toArray⟩:ByteArray)=D at *
 have hZs:(Z.size:Int)=(l.length:Int):=by rw [HZ.out]
 have hGs:(G.size:Int)=(sg.length:Int):=by rw [HSS.out]
 have hle:(sg.length:Int)<=(Z.size:Int):=by have:=HSL.out;omega
 have h0:(0:Int)<=(sg.length:Int):=Int.natCast_nonneg _
 go_enter func78,ntmps78
 go_upto_block 0 with fail
 rename_i K5 hK5
 refine wp_only (HSG.out _ w ⟨rfl,rfl,rfl,rfl,trivial⟩) ?_
 rintro a3 w3 ⟨rfl,hF⟩
 refine hK5 _ _ ?_
 clear hK5 K5 HSG
 obtain ⟨ts,ds⟩:=a3
 obtain ⟨hsz,hds,hs0,hs4,-⟩:=hF
 dsimp only at hsz hds hs0 hs4
 subst hds
 obtain ⟨c,rfl,hc⟩:=lit94 ts hsz
 rw [hc] at hs0
 rw [hc] at hs4
 simp only [hs0,hs4]
 clear hc hsz hs0 hs4
 go_wp2_with fail
 with_reducible refine (HVO.out _).mono ?_
 rintro e w4 ⟨hv,hm4⟩
 rcases hv with ⟨hn,rfl⟩ | ⟨⟨a,b,d,pr⟩,pv,hv,rfl,hp⟩
 ·have HN:=zh (show boundsL l=none by rw [HB.out,hn];rfl)
  have HM4:=zh hm4
  clear hn hm4 HB HVO
  go_wp2_with fail
  exact fin hR ⟨.inl ⟨HN.out,rfl⟩,HM4.out.alloc _⟩
 ·have HOK:=zh (verOf_ok hv)
  have HY:=zh (show boundsL l=some (boundsV sg ⟨a,b,d,pr⟩) by rw [HB.out,hv];rfl)
  obtain ⟨pa,pc,rfl⟩:=hp.len
  dsimp only at *
  have HP4:=zh hp
  have HM4:=zh hm4
  clear hv hm4 hp HB HVO
  go_upto_region 7 with fail
  obtain ⟨gv,hgv⟩:∃ g,g=w4.heap.size:=⟨_,rfl⟩
  rw [<- hgv]
  generalize hw5:World.alloc w4 _=w5
  have HM5:=zh (show Mod No w3 w5 by rw [<- hw5];exact HM4.out.alloc _)
  have HP5:=zh (show Sl w5 No 9 (.slice pa pr.length pc) pr.length (strs pr) by rw [<- hw5];exact HP4.out.keep (S:=No) ((Mod.refl No w4).alloc _) (fun _ _ _ f=>f.elim))
  have HV5:=zh (show w5.heap[gv]? = some (.cells #[.int .i64 a,.int .i64 b,.int .i64 d,.slice pa pr.length pc] 40 (0,0)) by rw [<- hw5,hgv];exact heap_alloc_new w4 _)
  clear hw5 hgv HM4 HP4
  obtain ⟨⟨c0,c1,c2,c3⟩,-⟩:=cells4 HV5.out
  go_upto_region 10 with fail
  obtain ⟨gb,hgb⟩:∃ g,g=w5.heap.size:=⟨_,rfl⟩
  rw [<- hgb]
  generalize hw6:World.alloc w5 _=w6
  have HM6:=zh (show Mod No w3 w6 by rw [<- hw6];exact HM5.out.alloc _)
  have HP6:=zh (show Sl w6 No 9 (.slice pa pr.length pc) pr.length (strs pr) by rw [<- hw6];exact ss_alloc HP5.out _)
  have HV6:=zh (show w6.heap[gv]? = some (.cells #[.int .i64 a,.int .i64 b,.int .i64 d,.slice pa pr.length pc] 40 (0,0)) by rw [<- hw6];exact heap_alloc_old _ HV5.out)
  have HB6:=zh (show w6.heap[gb]? = some (.cells #[.string ⟨#[62,61]⟩,.int .i64 a,.int .i64 b,.int .i64 d,.slice pa pr.length pc] 153 (0,0)) by rw [<- hw6,hgb];exact heap_alloc_new w5 _)
  clear hw6 hgb c0 c1 c2 c3 HM5 HP5 HV5
  have c0:w6.cell? ⟨gv,0,none⟩=some (.int .i64 a):=cell_ofA HV6.out rfl
  have c1:w6.cell? ⟨gv,1,none⟩=some (.int .i64 b):=cell_ofA HV6.out rfl
  have c2:w6.cell? ⟨gv,2,none⟩=some (.int .i64 d):=cell_ofA HV6.out rfl
  have c3:w6.cell? ⟨gv,3,none⟩=some (.slice pa pr.length pc):=cell_ofA HV6.out rfl
  by_cases s0:sg=[]
  ·subst s0
   have hg:G.toList=[]:=HSN.out
   have HY6:=zh (show boundsL l=some [⟨[61],⟨a,b,d,pr⟩⟩] by rw [HY.out];rfl)
   clear HSN HY HOK
   go_wp2_with fail
   exact fin hR ⟨.inr ⟨_,_,HY6.out,rfl,bnds_new w6 [⟨⟨[61],⟨a,b,d,pr⟩⟩,.slice pa pr.length pc⟩] (fun x hx=>by
    rcases List.mem_cons.1 hx with rfl | hx
    ·exact HP6.out
    ·cases hx) (Nat.le_of_ble_eq_true rfl)⟩,HM6.out.alloc _⟩
  ·have hg0:G.toList.isEmpty=false:=by rw [HSN.out];simpa using s0
   by_cases s1:sg=[94]
   ·subst s1
    have hg:G.toList=[94]:=HSN.out
    have HYC:=zh (show boundsL l=some [⟨[62,61],⟨a,b,d,pr⟩⟩,⟨[60],nextV ⟨a,b,d,pr⟩ (if 0 < a then 0 else if 0 < b then 1 else 2)⟩] by rw [HY.out];rfl)
    clear HSN HY hg0 s0
    by_cases ha:0 < a
    ·have hyc:=HYC.out
     rw [if_pos ha] at hyc
     clear HYC
     have HY6:=zh hyc
     have HNX:=zh (show ∀ w,Calls prog 102 #[.agg #[.int .i64 a,.int .i64 b,.int .i64 d,.slice pa pr.length pc],.int .i64 0] w fun e w'=>e=.returned (verV (nextV ⟨a,b,d,pr⟩ 0) (.slice none 0 0))/\Mod No w w' from fun w=>refnext_any ⟨a,b,d,pr⟩ (.slice pa pr.length pc) 0 (by decide) HOK.out w)
     have HNP:=zh (nextV_pre ⟨a,b,d,pr⟩ 0)
     generalize nextV ⟨a,b,d,pr⟩ 0=nx at *
     obtain ⟨n0,n1,n2,npr⟩:=nx
     obtain rfl:npr=[]:=HNP.out
     clear HNP
     go_upto_region 19 with fail
     obtain ⟨wA,hwA⟩:∃ z,z=w6.drew:=⟨_,rfl⟩
     have HMA:=zh (show Mod No w3 wA by rw [hwA];exact HM6.out.drew)
     have HPA:=zh (show Sl wA No 9 (.slice pa pr.length pc) pr.length (strs pr) by rw [hwA];exact HP6.out.keep (S:=No) (Mod.refl No w6).drew (fun _ _ _ f=>f.elim))
     have HSM:=zh (show ∀ w',Mod No wA w'->w'.cell? ⟨gb,0,none⟩=some (.string ⟨#[62,61]⟩)/\w'.cell? ⟨gb,1,none⟩=some (.int .i64 a)/\w'.cell? ⟨gb,2,none⟩=some (.int .i64 b)/\w'.cell? ⟨gb,3,none⟩=some (.int .i64 d)/\w'.cell? ⟨gb,4,none⟩=some (.slice pa pr.length pc)/\w'.cell? ⟨gv,0,none⟩=some (.int .i64 a)/\w'.cell? ⟨gv,1,none⟩=some (.int .i64 b)/\w'.cell? ⟨gv,2,none⟩=some (.int .i64 d)/\w'.cell? ⟨gv,3,none⟩=some (.slice pa pr.length pc) from fun w' hm=>by
      have hm6:Mod No w6 w':=by rw [hwA] at hm;exact (Mod.refl No w6).drew.trans hm
      have hv:=hm6.keep HV6.out (fun f=>f)
      have hb:=hm6.keep HB6.out (fun f=>f)
      exact ⟨cell_ofA hb rfl,cell_ofA hb rfl,cell_ofA hb rfl,cell_ofA hb rfl,cell_ofA hb rfl,cell_ofA hv rfl,cell_ofA hv rfl,cell_ofA hv rfl,cell_ofA hv rfl⟩)
     have hS0:=HSM.out wA (Mod.refl _ _)
     have HWA:=zh hwA
     clear hwA c0 c1 c2 c3 HM6 HP6 HV6 HB6
     refine wp_region_T (fun w'=>w'.cell? ⟨gb,0,none⟩=some (.string ⟨#[62,61]⟩)/\w'.cell? ⟨gb,1,none⟩=some (.int .i64 a)/\w'.cell? ⟨gb,2,none⟩=some (.int .i64 b)/\w'.cell? ⟨gb,3,none⟩=some (.int .i64 d)/\w'.cell? ⟨gb,4,none⟩=some (.slice pa pr.length pc)/\w'.cell? ⟨gv,0,none⟩=some (.int .i64 a)/\w'.cell? ⟨gv,1,none⟩=some (.int .i64 b)/\w'.cell? ⟨gv,2,none⟩=some (.int .i64 d)/\w'.cell? ⟨gv,3,none⟩=some (.slice pa pr.length pc)) 99 (by kernel_rfl) ?_
     rw [<- HWA.out]
     clear HWA
     refine yT 0 (some 77) ?_ hS0 ?_ ?_
     rotate_left
     ·(intro w' hSw;obtain ⟨q0,q1,q2,q3,q4,q5,q6,q7,q8⟩:=hSw;go_simp;try with_reducible rfl)
     simp only [Act.put,yB,yC,yD]
     refine yT 1 (some 78) ?_ hS0 ?_ ?_
     rotate_left
     ·(intro w' hSw;obtain ⟨q0,q1,q2,q3,q4,q5,q6,q7,q8⟩:=hSw;go_simp;try with_reducible rfl)
     simp only [Act.put,yB,yC,yD]
     refine yT 2 (some 79) ?_ hS0 ?_ ?_
     rotate_left
     ·(intro w' hSw;obtain ⟨q0,q1,q2,q3,q4,q5,q6,q7,q8⟩:=hSw;go_simp;try with_reducible rfl)
     simp only [Act.put,yB,yC,yD]
     refine wpAnyT_one 3 rfl (by kernel_rfl) rfl ?_
     intro K hK
     go_simp
     go_at_call 102
     with_reducible refine (HNX.out _).mono ?_
     rintro e wB ⟨rfl,hB⟩
     have HMB:=zh hB
     clear hB
     show K _ _
     have hS1:=HSM.out wB HMB.out
     refine hK.out _ _ (fun _=>hS1) ?_
     clear hK K
     refine yT 4 (some 81) ?_ hS1 ?_ ?_
     rotate_left
     ·(intro w' hSw;obtain ⟨q0,q1,q2,q3,q4,q5,q6,q7,q8⟩:=hSw;go_simp;try with_reducible rfl)
     simp only [Act.put,yB,yC,yD]
     refine wpAnyT_one 5 rfl (by kernel_rfl) rfl ?_
     intro K hK
     go_simp
     show K _ _
     have hS2:=HSM.out (wB.alloc (.cells #[.string ⟨#[62,61]⟩,.int .i64 a,.int .i64 b,.int .i64 d,.slice pa pr.length pc,.string ⟨#[60]⟩,.int .i64 n0,.int .i64 n1,.int .i64 n2,.slice none 0 0] 153)) (HMB.out.alloc _)
     refine hK.out _ _ (fun _=>hS2) ?_
     clear hK K
     refine yT 6 (some 2) ?_ hS2 ?_ ?_
     rotate_left
     ·(intro w' hSw;obtain ⟨q0,q1,q2,q3,q4,q5,q6,q7,q8⟩:=hSw;go_simp;try with_reducible rfl)
     simp only [Act.put,yB,yC,yD]
     refine yT 7 (some 3) ?_ hS2 ?_ ?_
     rotate_left
     ·(intro w' hSw;obtain ⟨q0,q1,q2,q3,q4,q5,q6,q7,q8⟩:=hSw;go_simp;try with_reducible rfl)
     simp only [Act.put]
     refine wpAnyT_done (by kernel_rfl) ?_ _
     go_wp2_with fail
     exact fin hR ⟨.inr ⟨_,_,HY6.out,rfl,bnds_new wB [⟨⟨[62,61],⟨a,b,d,pr⟩⟩,.slice pa pr.length pc⟩,⟨⟨[60],⟨n0,n1,n2,[]⟩⟩,.slice none 0 0⟩] (fun x hx=>by
      rcases List.mem_cons.1 hx with rfl | hx
      ·exact HPA.out.keep (S:=No) HMB.out (fun _ _ _ f=>f.elim)
      ·rcases List.mem_cons.1 hx with rfl | hx
       ·exact .inl ⟨rfl,rfl,rfl⟩
       ·cases hx) (Nat.le_of_ble_eq_true rfl)⟩,HMA.out.trans (HMB.out.alloc _)⟩
    ·have ha':a<=0:=by omega
     by_cases hb:0 < b
     ·have hyc:=HYC.out
      rw [if_neg ha,if_pos hb] at hyc
      clear HYC
      have HY6:=zh hyc
      have HNX:=zh (show ∀ w,Calls prog 102 #[.agg #[.int .i64 a,.int .i64 b,.int .i64 d,.slice pa pr.length pc],.int .i64 1] w fun e w'=>e=.returned (verV (nextV ⟨a,b,d,pr⟩ 1) (.slice none 0 0))/\Mod No w w' from fun w=>refnext_any ⟨a,b,d,pr⟩ (.slice pa pr.length pc) 1 (by decide) HOK.out w)
      have HNP:=zh (nextV_pre ⟨a,b,d,pr⟩ 1)
      generalize nextV ⟨a,b,d,pr⟩ 1=nx at *
      obtain ⟨n0,n1,n2,npr⟩:=nx
      obtain rfl:npr=[]:=HNP.out
      clear HNP
      go_upto_region 19 with fail
      obtain ⟨wA,hwA⟩:∃ z,z=w6.drew:=⟨_,rfl⟩
      have HMA:=zh (show Mod No w3 wA by rw [hwA];exact HM6.out.drew)
      have HPA:=zh (show Sl wA No 9 (.slice pa pr.length pc) pr.length (strs pr) by rw [hwA];exact HP6.out.keep (S:=No) (Mod.refl No w6).drew (fun _ _ _ f=>f.elim))
      have HSM:=zh (show ∀ w',Mod No wA w'->w'.cell? ⟨gb,0,none⟩=some (.string ⟨#[62,61]⟩)/\w'.cell? ⟨gb,1,none⟩=some (.int .i64 a)/\w'.cell? ⟨gb,2,none⟩=some (.int .i64 b)/\w'.cell? ⟨gb,3,none⟩=some (.int .i64 d)/\w'.cell? ⟨gb,4,none⟩=some (.slice pa pr.length pc)/\w'.cell? ⟨gv,0,none⟩=some (.int .i64 a)/\w'.cell? ⟨gv,1,none⟩=some (.int .i64 b)/\w'.cell? ⟨gv,2,none⟩=some (.int .i64 d)/\w'.cell? ⟨gv,3,none⟩=some (.slice pa pr.length pc) from fun w' hm=>by
       have hm6:Mod No w6 w':=by rw [hwA] at hm;exact (Mod.refl No w6).drew.trans hm
       have hv:=hm6.keep HV6.out (fun f=>f)
       have hb:=hm6.keep HB6.out (fun f=>f)
       exact ⟨cell_ofA hb rfl,cell_ofA hb rfl,cell_ofA hb rfl,cell_ofA hb rfl,cell_ofA hb rfl,cell_ofA hv rfl,cell_ofA hv rfl,cell_ofA hv rfl,cell_ofA hv rfl⟩)
      have hS0:=HSM.out wA (Mod.refl _ _)
      have HWA:=zh hwA
      clear hwA c0 c1 c2 c3 HM6 HP6 HV6 HB6
      refine wp_region_T (fun w'=>w'.cell? ⟨gb,0,none⟩=some (.string ⟨#[62,61]⟩)/\w'.cell? ⟨gb,1,none⟩=some (.int .i64 a)/\w'.cell? ⟨gb,2,none⟩=some (.int .i64 b)/\w'.cell? ⟨gb,3,none⟩=some (.int .i64 d)/\w'.cell? ⟨gb,4,none⟩=some (.slice pa pr.length pc)/\w'.cell? ⟨gv,0,none⟩=some (.int .i64 a)/\w'.cell? ⟨gv,1,none⟩=some (.int .i64 b)/\w'.cell? ⟨gv,2,none⟩=some (.int .i64 d)/\w'.cell? ⟨gv,3,none⟩=some (.slice pa pr.length pc)) 99 (by kernel_rfl) ?_
      rw [<- HWA.out]
      clear HWA
      refine yT 0 (some 77) ?_ hS0 ?_ ?_
      rotate_left
      ·(intro w' hSw;obtain ⟨q0,q1,q2,q3,q4,q5,q6,q7,q8⟩:=hSw;go_simp;try with_reducible rfl)
      simp only [Act.put,yB,yC,yD]
      refine yT 1 (some 78) ?_ hS0 ?_ ?_
      rotate_left
      ·(intro w' hSw;obtain ⟨q0,q1,q2,q3,q4,q5,q6,q7,q8⟩:=hSw;go_simp;try with_reducible rfl)
      simp only [Act.put,yB,yC,yD]
      refine yT 2 (some 79) ?_ hS0 ?_ ?_
      rotate_left
      ·(intro w' hSw;obtain ⟨q0,q1,q2,q3,q4,q5,q6,q7,q8⟩:=hSw;go_simp;try with_reducible rfl)
      simp only [Act.put,yB,yC,yD]
      refine wpAnyT_one 3 rfl (by kernel_rfl) rfl ?_
      intro K hK
      go_simp
      go_at_call 102
      with_reducible refine (HNX.out _).mono ?_
      rintro e wB ⟨rfl,hB⟩
      have HMB:=zh hB
      clear hB
      show K _ _
      have hS1:=HSM.out wB HMB.out
      refine hK.out _ _ (fun _=>hS1) ?_
      clear hK K
      refine yT 4 (some 81) ?_ hS1 ?_ ?_
      rotate_left
      ·(intro w' hSw;obtain ⟨q0,q1,q2,q3,q4,q5,q6,q7,q8⟩:=hSw;go_simp;try with_reducible rfl)
      simp only [Act.put,yB,yC,yD]
      refine wpAnyT_one 5 rfl (by kernel_rfl) rfl ?_
      intro K hK
      go_simp
      show K _ _
      have hS2:=HSM.out (wB.alloc (.cells #[.string ⟨#[62,61]⟩,.int .i64 a,.int .i64 b,.int .i64 d,.slice pa pr.length pc,.string ⟨#[60]⟩,.int .i64 n0,.int .i64 n1,.int .i64 n2,.slice none 0 0] 153)) (HMB.out.alloc _)
      refine hK.out _ _ (fun _=>hS2) ?_
      clear hK K
      refine yT 6 (some 2) ?_ hS2 ?_ ?_
      rotate_left
      ·(intro w' hSw;obtain ⟨q0,q1,q2,q3,q4,q5,q6,q7,q8⟩:=hSw;go_simp;try with_reducible rfl)
      simp only [Act.put,yB,yC,yD]
      refine yT 7 (some 3) ?_ hS2 ?_ ?_
      rotate_left
      ·(intro w' hSw;obtain ⟨q0,q1,q2,q3,q4,q5,q6,q7,q8⟩:=hSw;go_simp;try with_reducible rfl)
      simp only [Act.put]
      refine wpAnyT_done (by kernel_rfl) ?_ _
      go_wp2_with fail
      exact fin hR ⟨.inr ⟨_,_,HY6.out,rfl,bnds_new wB [⟨⟨[62,61],⟨a,b,d,pr⟩⟩,.slice pa pr.length pc⟩,⟨⟨[60],⟨n0,n1,n2,[]⟩⟩,.slice none 0 0⟩] (fun x hx=>by
       rcases List.mem_cons.1 hx with rfl | hx
       ·exact HPA.out.keep (S:=No) HMB.out (fun _ _ _ f=>f.elim)
       ·rcases List.mem_cons.1 hx with rfl | hx
        ·exact .inl ⟨rfl,rfl,rfl⟩
        ·cases hx) (Nat.le_of_ble_eq_true rfl)⟩,HMA.out.trans (HMB.out.alloc _)⟩
     ·have hb':b<=0:=by omega
      have hyc:=HYC.out
      rw [if_neg ha,if_neg hb] at hyc
      clear HYC
      have HY6:=zh hyc
      have HNX:=zh (show ∀ w,Calls prog 102 #[.agg #[.int .i64 a,.int .i64 b,.int .i64 d,.slice pa pr.length pc],.int .i64 2] w fun e w'=>e=.returned (verV (nextV ⟨a,b,d,pr⟩ 2) (.slice none 0 0))/\Mod No w w' from fun w=>refnext_any ⟨a,b,d,pr⟩ (.slice pa pr.length pc) 2 (by decide) HOK.out w)
      have HNP:=zh (nextV_pre ⟨a,b,d,pr⟩ 2)
      generalize nextV ⟨a,b,d,pr⟩ 2=nx at *
      obtain ⟨n0,n1,n2,npr⟩:=nx
      obtain rfl:npr=[]:=HNP.out
      clear HNP
      go_upto_region 19 with fail
      obtain ⟨wA,hwA⟩:∃ z,z=w6.drew:=⟨_,rfl⟩
      have HMA:=zh (show Mod No w3 wA by rw [hwA];exact HM6.out.drew)
      have HPA:=zh (show Sl wA No 9 (.slice pa pr.length pc) pr.length (strs pr) by rw [hwA];exact HP6.out.keep (S:=No) (Mod.refl No w6).drew (fun _ _ _ f=>f.elim))
      have HSM:=zh (show ∀ w',Mod No wA w'->w'.cell? ⟨gb,0,none⟩=some (.string ⟨#[62,61]⟩)/\w'.cell? ⟨gb,1,none⟩=some (.int .i64 a)/\w'.cell? ⟨gb,2,none⟩=some (.int .i64 b)/\w'.cell? ⟨gb,3,none⟩=some (.int .i64 d)/\w'.cell? ⟨gb,4,none⟩=some (.slice pa pr.length pc)/\w'.cell? ⟨gv,0,none⟩=some (.int .i64 a)/\w'.cell? ⟨gv,1,none⟩=some (.int .i64 b)/\w'.cell? ⟨gv,2,none⟩=some (.int .i64 d)/\w'.cell? ⟨gv,3,none⟩=some (.slice pa pr.length pc) from fun w' hm=>by
       have hm6:Mod No w6 w':=by rw [hwA] at hm;exact (Mod.refl No w6).drew.trans hm
       have hv:=hm6.keep HV6.out (fun f=>f)
       have hb:=hm6.keep HB6.out (fun f=>f)
       exact ⟨cell_ofA hb rfl,cell_ofA hb rfl,cell_ofA hb rfl,cell_ofA hb rfl,cell_ofA hb rfl,cell_ofA hv rfl,cell_ofA hv rfl,cell_ofA hv rfl,cell_ofA hv rfl⟩)
      have hS0:=HSM.out wA (Mod.refl _ _)
      have HWA:=zh hwA
      clear hwA c0 c1 c2 c3 HM6 HP6 HV6 HB6
      refine wp_region_T (fun w'=>w'.cell? ⟨gb,0,none⟩=some (.string ⟨#[62,61]⟩)/\w'.cell? ⟨gb,1,none⟩=some (.int .i64 a)/\w'.cell? ⟨gb,2,none⟩=some (.int .i64 b)/\w'.cell? ⟨gb,3,none⟩=some (.int .i64 d)/\w'.cell? ⟨gb,4,none⟩=some (.slice pa pr.length pc)/\w'.cell? ⟨gv,0,none⟩=some (.int .i64 a)/\w'.cell? ⟨gv,1,none⟩=some (.int .i64 b)/\w'.cell? ⟨gv,2,none⟩=some (.int .i64 d)/\w'.cell? ⟨gv,3,none⟩=some (.slice pa pr.length pc)) 99 (by kernel_rfl) ?_
      rw [<- HWA.out]
      clear HWA
      refine yT 0 (some 77) ?_ hS0 ?_ ?_
      rotate_left
      ·(intro w' hSw;obtain ⟨q0,q1,q2,q3,q4,q5,q6,q7,q8⟩:=hSw;go_simp;try with_reducible rfl)
      simp only [Act.put,yB,yC,yD]
      refine yT 1 (some 78) ?_ hS0 ?_ ?_
      rotate_left
      ·(intro w' hSw;obtain ⟨q0,q1,q2,q3,q4,q5,q6,q7,q8⟩:=hSw;go_simp;try with_reducible rfl)
      simp only [Act.put,yB,yC,yD]
      refine yT 2 (some 79) ?_ hS0 ?_ ?_
      rotate_left
      ·(intro w' hSw;obtain ⟨q0,q1,q2,q3,q4,q5,q6,q7,q8⟩:=hSw;go_simp;try with_reducible rfl)
      simp only [Act.put,yB,yC,yD]
      refine wpAnyT_one 3 rfl (by kernel_rfl) rfl ?_
      intro K hK
      go_simp
      go_at_call 102
      with_reducible refine (HNX.out _).mono ?_
      rintro e wB ⟨rfl,hB⟩
      have HMB:=zh hB
      clear hB
      show K _ _
      have hS1:=HSM.out wB HMB.out
      refine hK.out _ _ (fun _=>hS1) ?_
      clear hK K
      refine yT 4 (some 81) ?_ hS1 ?_ ?_
      rotate_left
      ·(intro w' hSw;obtain ⟨q0,q1,q2,q3,q4,q5,q6,q7,q8⟩:=hSw;go_simp;try with_reducible rfl)
      simp only [Act.put,yB,yC,yD]
      refine wpAnyT_one 5 rfl (by kernel_rfl) rfl ?_
      intro K hK
      go_simp
      show K _ _
      have hS2:=HSM.out (wB.alloc (.cells #[.string ⟨#[62,61]⟩,.int .i64 a,.int .i64 b,.int .i64 d,.slice pa pr.length pc,.string ⟨#[60]⟩,.int .i64 n0,.int .i64 n1,.int .i64 n2,.slice none 0 0] 153)) (HMB.out.alloc _)
      refine hK.out _ _ (fun _=>hS2) ?_
      clear hK K
      refine yT 6 (some 2) ?_ hS2 ?_ ?_
      rotate_left
      ·(intro w' hSw;obtain ⟨q0,q1,q2,q3,q4,q5,q6,q7,q8⟩:=hSw;go_simp;try with_reducible rfl)
      simp only [Act.put,yB,yC,yD]
      refine yT 7 (some 3) ?_ hS2 ?_ ?_
      rotate_left
      ·(intro w' hSw;obtain ⟨q0,q1,q2,q3,q4,q5,q6,q7,q8⟩:=hSw;go_simp;try with_reducible rfl)
      simp only [Act.put]
      refine wpAnyT_done (by kernel_rfl) ?_ _
      go_wp2_with fail
      exact fin hR ⟨.inr ⟨_,_,HY6.out,rfl,bnds_new wB [⟨⟨[62,61],⟨a,b,d,pr⟩⟩,.slice pa pr.length pc⟩,⟨⟨[60],⟨n0,n1,n2,[]⟩⟩,.slice none 0 0⟩] (fun x hx=>by
       rcases List.mem_cons.1 hx with rfl | hx
       ·exact HPA.out.keep (S:=No) HMB.out (fun _ _ _ f=>f.elim)
       ·rcases List.mem_cons.1 hx with rfl | hx
        ·exact .inl ⟨rfl,rfl,rfl⟩
        ·cases hx) (Nat.le_of_ble_eq_true rfl)⟩,HMA.out.trans (HMB.out.alloc _)⟩
   ·have hg1:(G.toList == [94])=false:=by rw [HSN.out];simpa using s1
    by_cases s2:sg=[126]
    ·subst s2
     have hg:G.toList=[126]:=HSN.out
     have hyc:boundsL l=some [⟨[62,61],⟨a,b,d,pr⟩⟩,⟨[60],nextV ⟨a,b,d,pr⟩ 1⟩]:=by rw [HY.out];rfl
     clear HSN HY hg0 s0 hg1 s1
     have HY6:=zh hyc
     have HNX:=zh (show ∀ w,Calls prog 102 #[.agg #[.int .i64 a,.int .i64 b,.int .i64 d,.slice pa pr.length pc],.int .i64 1] w fun e w'=>e=.returned (verV (nextV ⟨a,b,d,pr⟩ 1) (.slice none 0 0))/\Mod No w w' from fun w=>refnext_any ⟨a,b,d,pr⟩ (.slice pa pr.length pc) 1 (by decide) HOK.out w)
     have HNP:=zh (nextV_pre ⟨a,b,d,pr⟩ 1)
     generalize nextV ⟨a,b,d,pr⟩ 1=nx at *
     obtain ⟨n0,n1,n2,npr⟩:=nx
     obtain rfl:npr=[]:=HNP.out
     clear HNP
     go_upto_region 21 with fail
     obtain ⟨wA,hwA⟩:∃ z,z=w6.drew:=⟨_,rfl⟩
     have HMA:=zh (show Mod No w3 wA by rw [hwA];exact HM6.out.drew)
     have HPA:=zh (show Sl wA No 9 (.slice pa pr.length pc) pr.length (strs pr) by rw [hwA];exact HP6.out.keep (S:=No) (Mod.refl No w6).drew (fun _ _ _ f=>f.elim))
     have HSM:=zh (show ∀ w',Mod No wA w'->w'.cell? ⟨gb,0,none⟩=some (.string ⟨#[62,61]⟩)/\w'.cell? ⟨gb,1,none⟩=some (.int .i64 a)/\w'.cell? ⟨gb,2,none⟩=some (.int .i64 b)/\w'.cell? ⟨gb,3,none⟩=some (.int .i64 d)/\w'.cell? ⟨gb,4,none⟩=some (.slice pa pr.length pc)/\w'.cell? ⟨gv,0,none⟩=some (.int .i64 a)/\w'.cell? ⟨gv,1,none⟩=some (.int .i64 b)/\w'.cell? ⟨gv,2,none⟩=some (.int .i64 d)/\w'.cell? ⟨gv,3,none⟩=some (.slice pa pr.length pc) from fun w' hm=>by
      have hm6:Mod No w6 w':=by rw [hwA] at hm;exact (Mod.refl No w6).drew.trans hm
      have hv:=hm6.keep HV6.out (fun f=>f)
      have hb:=hm6.keep HB6.out (fun f=>f)
      exact ⟨cell_ofA hb rfl,cell_ofA hb rfl,cell_ofA hb rfl,cell_ofA hb rfl,cell_ofA hb rfl,cell_ofA hv rfl,cell_ofA hv rfl,cell_ofA hv rfl,cell_ofA hv rfl⟩)
     have hS0:=HSM.out wA (Mod.refl _ _)
     have HWA:=zh hwA
     clear hwA c0 c1 c2 c3 HM6 HP6 HV6 HB6
     refine wp_region_T (fun w'=>w'.cell? ⟨gb,0,none⟩=some (.string ⟨#[62,61]⟩)/\w'.cell? ⟨gb,1,none⟩=some (.int .i64 a)/\w'.cell? ⟨gb,2,none⟩=some (.int .i64 b)/\w'.cell? ⟨gb,3,none⟩=some (.int .i64 d)/\w'.cell? ⟨gb,4,none⟩=some (.slice pa pr.length pc)/\w'.cell? ⟨gv,0,none⟩=some (.int .i64 a)/\w'.cell? ⟨gv,1,none⟩=some (.int .i64 b)/\w'.cell? ⟨gv,2,none⟩=some (.int .i64 d)/\w'.cell? ⟨gv,3,none⟩=some (.slice pa pr.length pc)) 99 (by kernel_rfl) ?_
     rw [<- HWA.out]
     clear HWA
     refine yT 0 (some 85) ?_ hS0 ?_ ?_
     rotate_left
     ·(intro w' hSw;obtain ⟨q0,q1,q2,q3,q4,q5,q6,q7,q8⟩:=hSw;go_simp;try with_reducible rfl)
     simp only [Act.put,yB,yC,yD]
     refine yT 1 (some 86) ?_ hS0 ?_ ?_
     rotate_left
     ·(intro w' hSw;obtain ⟨q0,q1,q2,q3,q4,q5,q6,q7,q8⟩:=hSw;go_simp;try with_reducible rfl)
     simp only [Act.put,yB,yC,yD]
     refine wpAnyT_one 2 rfl (by kernel_rfl) rfl ?_
     intro K hK
     go_simp
     go_at_call 102
     with_reducible refine (HNX.out _).mono ?_
     rintro e wB ⟨rfl,hB⟩
     have HMB:=zh hB
     clear hB
     show K _ _
     have hS1:=HSM.out wB HMB.out
     refine hK.out _ _ (fun _=>hS1) ?_
     clear hK K
     refine yT 3 (some 88) ?_ hS1 ?_ ?_
     rotate_left
     ·(intro w' hSw;obtain ⟨q0,q1,q2,q3,q4,q5,q6,q7,q8⟩:=hSw;go_simp;try with_reducible rfl)
     simp only [Act.put,yB,yC,yD]
     refine wpAnyT_one 4 rfl (by kernel_rfl) rfl ?_
     intro K hK
     go_simp
     show K _ _
     have hS2:=HSM.out (wB.alloc (.cells #[.string ⟨#[62,61]⟩,.int .i64 a,.int .i64 b,.int .i64 d,.slice pa pr.length pc,.string ⟨#[60]⟩,.int .i64 n0,.int .i64 n1,.int .i64 n2,.slice none 0 0] 153)) (HMB.out.alloc _)
     refine hK.out _ _ (fun _=>hS2) ?_
     clear hK K
     refine yT 5 (some 2) ?_ hS2 ?_ ?_
     rotate_left
     ·(intro w' hSw;obtain ⟨q0,q1,q2,q3,q4,q5,q6,q7,q8⟩:=hSw;go_simp;try with_reducible rfl)
     simp only [Act.put,yB,yC,yD]
     refine yT 6 (some 3) ?_ hS2 ?_ ?_
     rotate_left
     ·(intro w' hSw;obtain ⟨q0,q1,q2,q3,q4,q5,q6,q7,q8⟩:=hSw;go_simp;try with_reducible rfl)
     simp only [Act.put]
     refine wpAnyT_done (by kernel_rfl) ?_ _
     go_wp2_with fail
     exact fin hR ⟨.inr ⟨_,_,HY6.out,rfl,bnds_new wB [⟨⟨[62,61],⟨a,b,d,pr⟩⟩,.slice pa pr.length pc⟩,⟨⟨[60],⟨n0,n1,n2,[]⟩⟩,.slice none 0 0⟩] (fun x hx=>by
      rcases List.mem_cons.1 hx with rfl | hx
      ·exact HPA.out.keep (S:=No) HMB.out (fun _ _ _ f=>f.elim)
      ·rcases List.mem_cons.1 hx with rfl | hx
       ·exact .inl ⟨rfl,rfl,rfl⟩
       ·cases hx) (Nat.le_of_ble_eq_true rfl)⟩,HMA.out.trans (HMB.out.alloc _)⟩
    ·have hg2:(G.toList == [126])=false:=by rw [HSN.out];simpa using s2
     have HY6:=zh (show boundsL l=some [⟨sg,⟨a,b,d,pr⟩⟩] by rw [HY.out];unfold boundsV;rw [if_neg s0,if_neg s1,if_neg s2])
     have HGS:=zh (show (Value.string G)=.string ⟨sg.toArray⟩ from congrArg Value.string (bytes_of_list HSN.out))
     clear HY HOK HSN s0 s1 s2
     go_wp2_with fail
     rw [HGS.out]
     exact fin hR ⟨.inr ⟨_,_,HY6.out,rfl,bnds_new w6 [⟨⟨sg,⟨a,b,d,pr⟩⟩,.slice pa pr.length pc⟩] (fun x hx=>by
      rcases List.mem_cons.1 hx with rfl | hx
      ·exact HP6.out
      ·cases hx) (Nat.le_of_ble_eq_true rfl)⟩,HM6.out.alloc _⟩
end Go.Proofs.YtgiigemfbebcgaaGreatDoor
