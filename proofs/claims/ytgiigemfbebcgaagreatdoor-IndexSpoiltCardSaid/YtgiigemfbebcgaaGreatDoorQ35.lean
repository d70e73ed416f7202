/-
  Layers 0 to 14: helps of the laws of indexes. No statement is proved here; no condition.
-/
import Derived.Test.YtgiigemfbebcgaaGreatDoorQ12
import Derived.Test.YtgiigemfbebcgaaGreatDoorQ07
import Derived.Test.YtgiigemfbebcgaaGreatDoorQ01
import Derived.Test.YtgiigemfbebcgaaGreatDoorQ06
import Derived.Test.YtgiigemfbebcgaaGreatDoorQ10
import Derived.Test.YtgiigemfbebcgaaGreatDoorQ14
import Derived.Test.YtgiigemfbebcgaaGreatDoorQ02
import Derived.Lib.ConvBytes
namespace Go.Proofs.YtgiigemfbebcgaaGreatDoor
open _root_.Go.Proofs.Tryz
open Go.RowKit
theorem Sl.lenle {X:Nat->Prop} {w:World} {e:TypeId} {v:Value} {n:Nat} {xs:List Value} (h:Sl w X e v n xs):n<=9223372036854775807:=by
 rcases Nat.eq_zero_or_pos n with h0 | h0
 ·omega
 ·obtain ⟨_,_,c,_,h1,h2,_⟩:=h.shape h0
  unfold maxLen at h2
  omega
set_option maxRecDepth 100000 in
set_option maxHeartbeats 4000000 in
theorem strings_eq (l:List (List UInt8)) (va vb:Value) (w:World) (ha:Sl w No 9 va l.length (strs l)) (hb:Sl w No 9 vb l.length (strs l)) :
  Calls prog 18 #[va,vb] w fun e w'=>e=.returned (.bool true)/\Mod No w w':=by
 refine calls_hide fun R hR=>?_
 have hl:=ha.lenle
 obtain ⟨a1,a2,rfl⟩:=ha.len
 obtain ⟨b1,b2,rfl⟩:=hb.len
 have HA:=zh ha
 have HB:=zh hb
 clear ha hb
 go_enter func18,ntmps18
 go_wp2_with fail
 go_loopw [5] (fun q wr=>∃ k:Nat,k<=l.length/\q=.int .i64 (k:Int)/\Mod No w wr) (fun q _=>l.length - (intOf q).toNat)
 case atStart=>exact ⟨0,by omega,rfl,Mod.refl _ _⟩
 case round =>
  obtain ⟨k,hk,rfl,hm⟩:=hrel
  have HM:=zh hm
  have hk0:(0:Int)<=(k:Int):=Int.natCast_nonneg _
  clear hm
  by_cases hlt:k < l.length
  ·have hk1:(k:Int) < (l.length:Int):=by omega
   obtain ⟨p,o,c,hvs,_⟩:=HA.out.shape (by omega)
   cases hvs
   obtain ⟨p2,o2,c2,hvs,_⟩:=HB.out.shape (by omega)
   cases hvs
   have h1:=HM.out.cell (HA.out.cellN (i:=k) (by rw [strs_length];exact hlt)) (fun f=>f)
   have h2:=HM.out.cell (HB.out.cellN (i:=k) (by rw [strs_length];exact hlt)) (fun f=>f)
   rw [show (strs l)[k]'(by rw [strs_length];exact hlt)=.string ⟨l[k].toArray⟩ from by simp [strs,strV]] at h1 h2
   generalize (⟨l[k].toArray⟩:ByteArray)=Z at *
   go_upto_region 6 with fail
   go_quiet (fail)
   generalize hw2:World.drewN wr _=w2
   have HM2:=zh (show Mod No w w2 by rw [<- hw2];exact HM.out.drewN _)
   clear hw2
   go_wp2_with fail
   exact ⟨⟨k+1,by omega,rfl,HM2.out⟩,by show l.length - ((k:Int)+1).toNat < l.length - (k:Int).toNat;omega⟩
  ·have hk1:¬ ((k:Int) < (l.length:Int)):=by omega
   go_wp2_with fail
   exact fin hR ⟨rfl,HM.out⟩
set_option maxRecDepth 100000 in
set_option maxHeartbeats 4000000 in
theorem version_eq (v:Ver) (pa pb:Value) (w:World) (ha:Sl w No 9 pa v.pre.length (strs v.pre)) (hb:Sl w No 9 pb v.pre.length (strs v.pre)) :
  Calls prog 53 #[verV v pa,verV v pb] w fun e w'=>e=.returned (.bool true)/\Mod No w w':=by
 refine calls_hide fun R hR=>?_
 obtain ⟨a1,a2,rfl⟩:=ha.len
 obtain ⟨b1,b2,rfl⟩:=hb.len
 obtain ⟨xa,xb,xc,xp⟩:=v
 have HS:=zh (fun W (hm:Mod No w W)=>strings_eq xp (.slice a1 xp.length a2) (.slice b1 xp.length b2) W (ha.kn hm) (hb.kn hm))
 clear ha hb
 unfold verV at *
 dsimp only at *
 go_enter func53,ntmps53
 go_wp2_with fail
 with_reducible refine (HS.out _ (((Mod.refl No w).alloc _).alloc _)).mono ?_
 rintro e w2 ⟨rfl,hm2⟩
 have HM:=zh ((((Mod.refl No w).alloc (.cells #[.int .i64 xa,.int .i64 xb,.int .i64 xc,.slice a1 xp.length a2] 40)).alloc (.cells #[.int .i64 xa,.int .i64 xb,.int .i64 xc,.slice b1 xp.length b2] 40)).trans hm2)
 clear hm2 HS
 go_wp2_with fail
 exact fin hR ⟨rfl,HM.out⟩
set_option maxRecDepth 100000 in
set_option maxHeartbeats 4000000 in
theorem refof_none (w:World):Calls prog 35 #[.slice none 0 0] w fun e w'=>e=.returned (.agg (bv (sumF [])).toArray)/\Mod No w w':=by
 refine calls_hide fun R hR=>?_
 go_enter func35,ntmps35
 go_upto_region 1 with fail
 rename_i K1 hK1
 obtain ⟨b2,hb2⟩:∃ b,b=w.heap.size:=⟨_,rfl⟩
 rw [<- hb2]
 generalize hw0:World.alloc w _=w0
 have HM0:=zh (show Mod No w w0 by rw [<- hw0];exact (Mod.refl No w).alloc _)
 have HB0:=zh (show w0.heap[b2]? = some (.cells (bv (List.replicate 32 0)).toArray 43 (0,0)) by
  rw [<- hw0,hb2];exact heap_alloc_new w _)
 have HB2:=zh hb2
 clear hw0 hb2
 go_wp2_with fail
 refine wp_loop_rounds 1 ?_
 rw [rounds_succ]
 go_wp2_with fail
 refine (refsum_any [] (.slice none 0 0) _ (by decide) (.inl ⟨rfl,rfl,rfl⟩)).mono ?_
 rintro e w4 ⟨rfl,hm4⟩
 have HM4:=zh (HM0.out.trans hm4)
 have hb4:=hm4.keep HB0.out (fun f=>f)
 have HS:=zh (sumF_length [])
 generalize sumF []=K at *
 clear hm4 HM0 HB0
 go_wp2_with fail
 rw [run_row hb4 (by simp [HS.out]) (bv_one _)]
 obtain ⟨w5,hw5⟩:∃ y,y=w4.setRow b2 (bv K).toArray:=⟨_,rfl⟩
 have hb5:w5.heap[b2]? = some (.cells (bv K).toArray 43 (0,0)):=by rw [hw5];exact setRow_heap _ _ _ _ _ _ hb4
 have HM5:=zh (show Mod No w w5 by rw [hw5];exact HM4.out.setRow (fun h=>by have:=HB2.out;omega) _)
 rw [<- hw5]
 clear hw5 hb4 HM4
 go_wp2_with fail
 exact bodyPost_ret (results_cell_row rfl _ _ b2 43 (bv K).toArray (0,0) _ rfl hb5 underlying43 (by kernel_rfl) (key_size HS.out)) rfl (fin hR ⟨rfl,HM5.out⟩)
theorem cmp_mul (m n:Nat):wrap64 (cmpN (n:Int) (m:Int)*(if ((m:Int) != (n:Int))=true then 1 else 0))=cmpN (n:Int) (m:Int):=by
 by_cases h:m=n
 ·subst h
  rw [if_neg (by simp),show cmpN (m:Int) (m:Int)=0 from cmpN_zero.2 rfl,wrap_tiny (by omega)]
  rfl
 ·rw [if_pos (by simp;omega),Int.mul_one]
  refine wrap_tiny ?_
  unfold cmpN
  split
  ·omega
  ·split <;> omega
set_option maxRecDepth 100000 in
set_option maxHeartbeats 8000000 in
theorem refvercmp_any (a b:Ver) (ha:Small a) (hb:Small b) (pa pb:Value) (w:World) (hpa:Sl w No 9 pa a.pre.length (strs a.pre)) (hpb:Sl w No 9 pb b.pre.length (strs b.pre)) :
  Calls prog 29 #[verV a pa,verV b pb] w fun e w'=>e=.returned (.int .i64 (verC a b))/\Mod No w w':=by
 refine calls_hide fun R hR=>?_
 obtain ⟨a0,a1,a2,as'⟩:=a
 obtain ⟨b0,b1,b2,bs'⟩:=b
 obtain ⟨va,vc,rfl⟩:=hpa.len
 obtain ⟨ua,uc,rfl⟩:=hpb.len
 have HPA:=zh hpa
 have HPB:=zh hpb
 have HCN:=zh refcmp_any
 have HONE:=zh oneif_any
 have HDG:=zh (fun (x:List UInt8) (h:x.length<=1000000)=>refdigits_any x h)
 have HTX:=zh reftext_any
 have HSA:=zh ha.each
 have HSB:=zh hb.each
 have HLA:=zh ha.len
 have HLB:=zh hb.len
 have hvc:verC ⟨a0,a1,a2,as'⟩ ⟨b0,b1,b2,bs'⟩=if orI [cmpN a0 b0,cmpN a1 b1,cmpN a2 b2]=0 then if as'=[]\/bs'=[] then cmpN bs'.length as'.length else preC as' bs' else orI [cmpN a0 b0,cmpN a1 b1,cmpN a2 b2]:=rfl
 rw [orI_three] at hvc
 have HV0:=zh (show cmpN a0 b0 ≠ 0->verC ⟨a0,a1,a2,as'⟩ ⟨b0,b1,b2,bs'⟩=cmpN a0 b0 from fun h=>by rw [hvc,if_neg h,if_neg h])
 have HV1:=zh (show cmpN a0 b0=0->cmpN a1 b1 ≠ 0->verC ⟨a0,a1,a2,as'⟩ ⟨b0,b1,b2,bs'⟩=cmpN a1 b1 from fun h0 h1=>by rw [hvc,if_pos h0,if_neg h1,if_neg h1])
 have HV2:=zh (show cmpN a0 b0=0->cmpN a1 b1=0->cmpN a2 b2 ≠ 0->verC ⟨a0,a1,a2,as'⟩ ⟨b0,b1,b2,bs'⟩=cmpN a2 b2 from fun h0 h1 h2=>by rw [hvc,if_pos h0,if_pos h1,if_neg h2])
 have HV3:=zh (show cmpN a0 b0=0->cmpN a1 b1=0->cmpN a2 b2=0->verC ⟨a0,a1,a2,as'⟩ ⟨b0,b1,b2,bs'⟩=if as'=[]\/bs'=[] then cmpN bs'.length as'.length else preC as' bs' from fun h0 h1 h2=>by rw [hvc,if_pos h0,if_pos h1,if_pos h2])
 clear hpa hpb ha hb hvc
 dsimp only at HSA HSB HLA HLB HPA HPB
 unfold verV at *
 dsimp only at *
 go_enter func29,ntmps29
 go_upto_region 1 with fail
 obtain ⟨gx,hgx⟩:∃ g,g=w.heap.size:=⟨_,rfl⟩
 obtain ⟨gy,hgy⟩:∃ g,g=gx+1:=⟨_,rfl⟩
 rw [<- hgx,<- hgy]
 obtain ⟨wA,hwA⟩:∃ z,z=(w.alloc (.cells #[.int .i64 a0,.int .i64 a1,.int .i64 a2,.slice va as'.length vc] 40)).alloc (.cells #[.int .i64 b0,.int .i64 b1,.int .i64 b2,.slice ua bs'.length uc] 40):=⟨_,rfl⟩
 have hx1:wA.heap[gx]? = some (.cells #[.int .i64 a0,.int .i64 a1,.int .i64 a2,.slice va as'.length vc] 40 (0,0)):=by rw [hwA,hgx];exact heap_alloc_old _ (heap_alloc_new w _)
 have hy1:wA.heap[gy]? = some (.cells #[.int .i64 b0,.int .i64 b1,.int .i64 b2,.slice ua bs'.length uc] 40 (0,0)):=by
  rw [hwA,hgy,hgx]
  have h1:=heap_alloc_new (w.alloc (.cells #[.int .i64 a0,.int .i64 a1,.int .i64 a2,.slice va as'.length vc] 40)) (.cells #[.int .i64 b0,.int .i64 b1,.int .i64 b2,.slice ua bs'.length uc] 40)
  rw [show (w.alloc (.cells #[.int .i64 a0,.int .i64 a1,.int .i64 a2,.slice va as'.length vc] 40)).heap.size=w.heap.size+1 by simp] at h1
  exact h1
 have HMA:=zh (show Mod No w wA by rw [hwA];exact ((Mod.refl No w).alloc _).alloc _)
 have HPA2:=zh (HPA.out.keep (S:=No) HMA.out (fun _ _ _ f=>f.elim))
 have HPB2:=zh (HPB.out.keep (S:=No) HMA.out (fun _ _ _ f=>f.elim))
 rw [<- hwA]
 have x0:=cell_ofA (i:=0) hx1 rfl
 have x1:=cell_ofA (i:=1) hx1 rfl
 have x2:=cell_ofA (i:=2) hx1 rfl
 have x3:=cell_ofA (i:=3) hx1 rfl
 have y0:=cell_ofA (i:=0) hy1 rfl
 have y1:=cell_ofA (i:=1) hy1 rfl
 have y2:=cell_ofA (i:=2) hy1 rfl
 have y3:=cell_ofA (i:=3) hy1 rfl
 have HX3:=zh x3
 have HY3:=zh y3
 clear hwA hgx hgy hx1 hy1 HPA HPB
 go_wp2_with fail
 with_reducible refine (HCN.out a0 b0 _).mono ?_
 rintro e wB ⟨rfl,hB⟩
 rw [hB]
 clear hB wB
 generalize cmpN a0 b0=c0 at *
 by_cases h0:c0=0
 rotate_left
 ·have h0b:(c0 != 0)=true:=by simpa using h0
  have HV:=zh (HV0.out h0)
  clear HV0 HV1 HV2 HV3
  go_wp2_with fail
  exact fin hR ⟨(by rw [HV.out];try rfl),HMA.out⟩
 have hv1:=HV1.out h0
 have hv2:=HV2.out h0
 have hv3:=HV3.out h0
 clear HV0 HV1 HV2 HV3
 have HV1:=zh hv1
 have HV2:=zh hv2
 have HV3:=zh hv3
 clear hv1 hv2 hv3
 subst h0
 go_wp2_with fail
 with_reducible refine (HCN.out a1 b1 _).mono ?_
 rintro e wB ⟨rfl,hB⟩
 rw [hB]
 clear hB wB
 generalize cmpN a1 b1=c1 at *
 by_cases h1:c1=0
 rotate_left
 ·have h1b:(c1 != 0)=true:=by simpa using h1
  have HV:=zh (HV1.out h1)
  clear HV1 HV2 HV3
  go_wp2_with fail
  exact fin hR ⟨(by rw [HV.out];try rfl),HMA.out⟩
 have hv2:=HV2.out h1
 have hv3:=HV3.out h1
 clear HV1 HV2 HV3
 have HV2:=zh hv2
 have HV3:=zh hv3
 clear hv2 hv3
 subst h1
 go_wp2_with fail
 with_reducible refine (HCN.out a2 b2 _).mono ?_
 rintro e wB ⟨rfl,hB⟩
 rw [hB]
 clear hB wB
 generalize cmpN a2 b2=c2 at *
 by_cases h2:c2=0
 rotate_left
 ·have h2b:(c2 != 0)=true:=by simpa using h2
  have HV:=zh (HV2.out h2)
  clear HV2 HV3
  go_wp2_with fail
  exact fin hR ⟨(by rw [HV.out];try rfl),HMA.out⟩
 have hvc:=HV3.out h2
 clear HV2 HV3
 subst h2
 clear x0 x1 x2 y0 y1 y2
 by_cases he:as'=[]\/bs'=[]
 ·rw [if_pos he,<- cmp_mul] at hvc
  have HV:=zh hvc
  have hle:as'.length=0\/bs'.length=0:=he.imp (fun h=>by rw [h];rfl) (fun h=>by rw [h];rfl)
  clear hvc he HPA2 HPB2 HSA HSB HDG HTX
  generalize as'.length=la at *
  generalize bs'.length=lb at *
  by_cases hla:la=0
  ·subst hla
   by_cases hlb:lb=0
   ·subst hlb
    have hv2:=HV.out
    rw [cmp_mul,show cmpN ((0:Nat):Int) ((0:Nat):Int)=0 from rfl] at hv2
    clear HV
    have HV:=zh hv2
    clear hv2
    go_upto_region 11 with fail
    go_quiet (first | (go_at_call 65;refine Calls.quiet_of_same (HCN.out _ _ _)) | (go_at_call 66;refine Calls.quiet_of_same (HONE.out _ _)))
    go_wp2_with fail
    exact fin hR ⟨(by rw [HV.out];first | done | rfl | simp),HMA.out.drewN _⟩
   ·have hd:((0:Int) != (lb:Int))=true:=by simp;omega
    have hv2:=HV.out
    rw [if_pos (show (((0:Nat):Int) != (lb:Int))=true from hd)] at hv2
    clear HV
    have HV:=zh hv2
    clear hv2
    go_upto_region 11 with fail
    go_quiet (first | (go_at_call 65;refine Calls.quiet_of_same (HCN.out _ _ _)) | (go_at_call 66;refine Calls.quiet_of_same (HONE.out _ _)))
    go_wp2_with fail
    exact fin hR ⟨(by rw [HV.out];first | done | rfl | simp),HMA.out.drewN _⟩
  ·obtain rfl:=hle.resolve_left hla
   have e1:((la:Int) == 0)=false:=by simpa using hla
   have hd:((la:Int) != (0:Int))=true:=by simpa using hla
   have hv2:=HV.out
   rw [if_pos (show ((la:Int) != ((0:Nat):Int))=true from hd)] at hv2
   clear HV
   have HV:=zh hv2
   clear hv2
   go_upto_region 11 with fail
   go_quiet (first | (go_at_call 65;refine Calls.quiet_of_same (HCN.out _ _ _)) | (go_at_call 66;refine Calls.quiet_of_same (HONE.out _ _)))
   go_wp2_with fail
   exact fin hR ⟨(by rw [HV.out];first | done | rfl | simp),HMA.out.drewN _⟩
 ·rw [if_neg he] at hvc
  have HV:=zh hvc
  have e1:((as'.length:Int) == 0)=false:=by
   rw [beq_eq_false_iff_ne]
   intro h
   exact he (.inl (List.eq_nil_of_length_eq_zero (by omega)))
  have e2:((bs'.length:Int) == 0)=false:=by
   rw [beq_eq_false_iff_ne]
   intro h
   exact he (.inr (List.eq_nil_of_length_eq_zero (by omega)))
  clear hvc he HONE
  go_wp2_with fail
  clear x3 y3
  go_loopw [8] (fun q wr=>∃ k:Nat,k<=as'.length/\k<=bs'.length/\q=.int .i64 k/\Mod No wA wr/\∀ i (h1:i < as'.length) (h2:i < bs'.length),i < k->markC as'[i] bs'[i]=0) (fun q _=>as'.length - (intOf q).toNat)
  case atStart=>exact ⟨0,by omega,by omega,rfl,Mod.refl _ _,fun i _ _ hi=>absurd hi (by omega)⟩
  case round =>
   obtain ⟨k,hk,hky,rfl,hmod,hno⟩:=hrel
   have HM:=zh hmod
   have HNO:=zh hno
   have hk0:(0:Int)<=(k:Int):=Int.natCast_nonneg _
   have x3:=hmod.cell HX3.out (fun f=>f)
   have y3:=hmod.cell HY3.out (fun f=>f)
   clear hmod hno
   by_cases hlt:k < as'.length/\k < bs'.length
   ·obtain ⟨hlx,hly⟩:=hlt
    have hk1:(k:Int) < (as'.length:Int):=by omega
    have hk2:(k:Int) < (bs'.length:Int):=by omega
    have hwk:wrap64 ((k:Int)+1)=(k:Int)+1:=by unfold wrap64;have:=HLA.out;omega
    obtain ⟨bk,bo,bc,hvs,_⟩:=HPA2.out.shape (by omega)
    cases hvs
    obtain ⟨ck,co,cc,hus,_⟩:=HPB2.out.shape (by omega)
    cases hus
    have hcell:=HM.out.cell (HPA2.out.cellN (i:=k) (by rw [strs_length];exact hlx)) (fun f=>f)
    rw [show (strs as')[k]'(by rw [strs_length];exact hlx)=.string ⟨as'[k].toArray⟩ from by simp [strs,strV]] at hcell
    have hcell2:=HM.out.cell (HPB2.out.cellN (i:=k) (by rw [strs_length];exact hly)) (fun f=>f)
    rw [show (strs bs')[k]'(by rw [strs_length];exact hly)=.string ⟨bs'[k].toArray⟩ from by simp [strs,strV]] at hcell2
    have HN:=zh (show markC as'[k] bs'[k]=0->∀ i (h1:i < as'.length) (h2:i < bs'.length),i < k+1->markC as'[i] bs'[i]=0 from fun h i h1 h2 hik=>by
     rcases Nat.lt_or_ge i k with h3 | h3
     ·exact HNO.out i h1 h2 h3
     ·obtain rfl:i=k:=by omega
      exact h)
    have HH:=zh (show markC as'[k] bs'[k] ≠ 0->verC ⟨a0,a1,a2,as'⟩ ⟨b0,b1,b2,bs'⟩=markC as'[k] bs'[k] from fun h=>by rw [HV.out];exact preC_hit hlx hly HNO.out h)
    have hsx:=HSA.out _ (List.getElem_mem hlx)
    have hsy:=HSB.out _ (List.getElem_mem hly)
    have HMK:=zh (show markC as'[k] bs'[k]=if digitsB as'[k] && digitsB bs'[k] then orI [cmpN as'[k].length bs'[k].length,cmpL as'[k] bs'[k]] else if digitsB as'[k] then -1 else if digitsB bs'[k] then 1 else cmpL as'[k] bs'[k] from rfl)
    have HDX:=zh (HDG.out _ hsx)
    have HDY:=zh (HDG.out _ hsy)
    have HTT:=zh (HTX.out as'[k] bs'[k])
    clear HNO hsx hsy HTX HDG
    generalize markC as'[k] bs'[k]=mk at *
    generalize digitsB as'[k]=dx at *
    generalize digitsB bs'[k]=dy at *
    generalize as'[k]=X at *
    generalize bs'[k]=Y at *
    go_upto_region 15 with fail
    go_quiet (fail)
    generalize hw2:World.drewN wr _=w2
    have HM2:=zh (show Mod No wA w2 by rw [<- hw2];exact HM.out.drewN _)
    clear hw2
    go_wp2_with fail
    with_reducible refine (HDX.out _).mono ?_
    rintro e wB ⟨rfl,hB⟩
    rw [hB]
    clear hB wB
    rcases dx with _ | _
    ·go_wp2_with fail
     with_reducible refine (HDX.out _).mono ?_
     rintro e wB ⟨rfl,hB⟩
     rw [hB]
     clear hB wB
     go_wp2_with fail
     with_reducible refine (HDY.out _).mono ?_
     rintro e wB ⟨rfl,hB⟩
     rw [hB]
     clear hB wB
     rcases dy with _ | _
     ·have em:cmpL X Y=mk:=by rw [HMK.out];rfl
      have htt:=HTT.out
      rw [em] at htt
      have HTU:=zh htt
      clear htt HTT
      go_wp2_with fail
      with_reducible refine (HTU.out _).mono ?_
      rintro e wB ⟨rfl,hB⟩
      rw [hB]
      clear hB wB
      by_cases h0:mk=0
      ·have hn:=HN.out h0
       have HN2:=zh hn
       clear hn HN HH HMK
       subst h0
       go_wp2_with fail
       try rw [hwk]
       exact ⟨⟨k+1,by omega,by omega,rfl,HM2.out,HN2.out⟩,by show as'.length - ((k:Int)+1).toNat < as'.length - (k:Int).toNat;omega⟩
      ·have HH2:=zh (HH.out h0)
       have h0b:(mk != 0)=true:=by simpa using h0
       clear HN HH HMK
       go_wp2_with fail
       exact fin hR ⟨(by rw [HH2.out];try rfl),HMA.out.trans HM2.out⟩
     ·obtain rfl:mk=1:=by rw [HMK.out];rfl
      have HH2:=zh (HH.out (by decide))
      clear HN HH HMK
      go_wp2_with fail
      exact fin hR ⟨(by rw [HH2.out];try rfl),HMA.out.trans HM2.out⟩
    ·go_wp2_with fail
     with_reducible refine (HDY.out _).mono ?_
     rintro e wB ⟨rfl,hB⟩
     rw [hB]
     clear hB wB
     rcases dy with _ | _
     ·go_wp2_with fail
      with_reducible refine (HDX.out _).mono ?_
      rintro e wB ⟨rfl,hB⟩
      rw [hB]
      clear hB wB
      obtain rfl:mk = -1:=by rw [HMK.out];rfl
      have HH2:=zh (HH.out (by decide))
      clear HN HH HMK
      go_wp2_with fail
      exact fin hR ⟨(by rw [HH2.out];try rfl),HMA.out.trans HM2.out⟩
     ·have em:mk=if cmpN X.length Y.length=0 then cmpL X Y else cmpN X.length Y.length:=by rw [HMK.out];exact orI_two _ _
      have HEM:=zh em
      clear em
      have hxs:((⟨X.toArray⟩:ByteArray).size:Int)=(X.length:Int):=by rw [str_len3]
      have hys:((⟨Y.toArray⟩:ByteArray).size:Int)=(Y.length:Int):=by rw [str_len3]
      have HCC:=zh (HCN.out (X.length:Int) (Y.length:Int))
      generalize cmpN (X.length:Int) (Y.length:Int)=cn at *
      go_wp2_with fail
      with_reducible refine (HCC.out _).mono ?_
      rintro e wB ⟨rfl,hB⟩
      rw [hB]
      clear hB wB
      by_cases hc0:cn=0
      ·have em:cmpL X Y=mk:=by rw [HEM.out,if_pos hc0]
       clear HEM
       subst hc0
       have htt:=HTT.out
       rw [em] at htt
       have HTU:=zh htt
       clear htt HTT
       go_wp2_with fail
       with_reducible refine (HTU.out _).mono ?_
       rintro e wB ⟨rfl,hB⟩
       rw [hB]
       clear hB wB
       by_cases h0:mk=0
       ·have hn:=HN.out h0
        have HN2:=zh hn
        clear hn HN HH HMK
        subst h0
        go_wp2_with fail
        try rw [hwk]
        exact ⟨⟨k+1,by omega,by omega,rfl,HM2.out,HN2.out⟩,by show as'.length - ((k:Int)+1).toNat < as'.length - (k:Int).toNat;omega⟩
       ·have HH2:=zh (HH.out h0)
        have h0b:(mk != 0)=true:=by simpa using h0
        clear HN HH HMK
        go_wp2_with fail
        exact fin hR ⟨(by rw [HH2.out];try rfl),HMA.out.trans HM2.out⟩
      ·obtain rfl:mk=cn:=by rw [HEM.out,if_neg hc0]
       have hc0b:((mk:Int) == 0)=false:=by simpa using hc0
       clear HEM
       by_cases h0:mk=0
       ·exact absurd h0 hc0
       ·have HH2:=zh (HH.out h0)
        have h0b:(mk != 0)=true:=by simpa using h0
        clear HN HH HMK
        go_wp2_with fail
        exact fin hR ⟨(by rw [HH2.out];try rfl),HMA.out.trans HM2.out⟩
   ·have HE:=zh (show verC ⟨a0,a1,a2,as'⟩ ⟨b0,b1,b2,bs'⟩=cmpN as'.length bs'.length by
     rw [HV.out]
     exact preC_end hk hky (by omega) HNO.out)
    clear HNO
    by_cases hkx:k < as'.length
    ·have hk1:(k:Int) < (as'.length:Int):=by omega
     have hk2:(bs'.length:Int)<=(k:Int):=by omega
     go_wp2_with fail
     with_reducible refine (HCN.out (as'.length:Int) (bs'.length:Int) _).mono ?_
     rintro e wB ⟨rfl,hB⟩
     rw [hB]
     clear hB wB
     go_wp2_with fail
     exact fin hR ⟨(by rw [HE.out];try rfl),HMA.out.trans HM.out⟩
    ·have hk1:(as'.length:Int)<=(k:Int):=by omega
     go_wp2_with fail
     with_reducible refine (HCN.out (as'.length:Int) (bs'.length:Int) _).mono ?_
     rintro e wB ⟨rfl,hB⟩
     rw [hB]
     clear hB wB
     go_wp2_with fail
     exact fin hR ⟨(by rw [HE.out];try rfl),HMA.out.trans HM.out⟩
theorem bytes_new (w:World) (l:List UInt8) (hl:l.length<=1000000):∃ c W,(convert 9 29 (.string ⟨l.toArray⟩)).run prog w=.ok (.slice (some ⟨w.heap.size,0,none⟩) l.length c) W/\Sl W No 5 (.slice (some ⟨w.heap.size,0,none⟩) l.length c) l.length (bv l)/\Mod No w W:=by
 have hs:=str_len3 l
 refine ⟨grownCap w l.length 0 5,Lib.bytesWorld w 5 ⟨l.toArray⟩,?_,?_,?_⟩
 ·have:=Lib.run_convert_string_bytes (P:=prog) w 9 29 5 ⟨l.toArray⟩ underlying9 underlying29 underlying5
  rw [hs] at this
  exact this
 ·refine .inr ⟨w.heap.size,0,_,_,_,rfl,?_,grownCap_le_maxLen w _ 0 _ (by unfold maxLen;omega),fun f=>f,Lib.bytesWorld_at_new w _ _,?_,fun i hi=>?_⟩
  ·exact grownCap_ge w _ 0 _
  ·unfold Lib.bytesCells;simp
  ·rw [bv_length] at hi
   unfold Lib.bytesCells
   rw [Nat.zero_add,Array.getElem?_append_left (by simpa using hi),bv_get _ i hi]
   simp [hi]
 ·exact ⟨rfl,rfl,rfl,by rw [Lib.bytesWorld_size];omega,fun k hk _=>Lib.bytesWorld_at_old w _ _ k hk⟩
set_option maxRecDepth 100000 in
theorem lit67 (t:Array Value) (h:t.size=67):∃ c:Nat->Value,t=#[c 0,c 1,c 2,c 3,c 4,c 5,c 6,c 7,c 8,c 9,c 10,c 11,c 12,c 13,c 14,c 15,c 16,c 17,c 18,c 19,c 20,c 21,c 22,c 23,c 24,c 25,c 26,c 27,c 28,c 29,c 30,c 31,c 32,c 33,c 34,c 35,c 36,c 37,c 38,c 39,c 40,c 41,c 42,c 43,c 44,c 45,c 46,c 47,c 48,c 49,c 50,c 51,c 52,c 53,c 54,c 55,c 56,c 57,c 58,c 59,c 60,c 61,c 62,c 63,c 64,c 65,c 66]/\∀ i,t.getD i undef=c i:=by
 refine ⟨fun i=>t.getD i undef,?_,fun _=>rfl⟩
 have h1:=arr_lits t
 rw [h] at h1
 exact h1.trans (by kernel_rfl)
noncomputable def bodyFl:Code:=Tryz.f34.body.getD .skip
noncomputable def blkFl0:Code:=(blockAt 0 bodyFl).getD .skip
theorem own_apartF {B:Nat} {w:World} {e:TypeId} {size:Nat} {v:Value} {n:Nat} {xs:List Value} (h:w.ownsRow B e size v n xs) {ts:List TypeId} (hne:e ∉ ts):Apart ts (fun k=>v.ownBlock=some k) w:=fun k cur fz e2 hk hc hm=>by
 obtain ⟨cur2,h5⟩:=own_heapM h hk
 rw [hc] at h5
 cases h5
 exact hne hm
theorem info_file:(prog.info? 122).map (fun i=>(i.zero,i.size,i.bytes))=some (some (.agg #[.string ⟨#[]⟩,.bool false,.slice none 0 0]),3,48):=by kernel_rfl
theorem bigB_take {k:Nat} (h:k < 200):bigB.take (k+1)=bigB.take k++[UInt8.ofNat k]:=by
 have hl:=bigB_length
 rw [List.take_succ_eq_append_getElem (by omega)]
 congr 2
 unfold bigB
 simp
set_option maxRecDepth 100000 in
set_option maxHeartbeats 16000000 in
theorem sw_part (K base:Nat) (v5:Value) (cs:List Value) (a:Act) (w:World) (hown:w.ownsRow base 122 3 v5 2 cs) (hb:base<=w.heap.size)
  (hF:Fr 67 [(5,v5),(6,.string ⟨#[]⟩),(27,.int .u8 ((K % 10:Nat):Int))] a) :
  Code.wp prog blkFl0 (Exit.then (fun a' w'=>∃ (v':Value) (ys:List FlX),Fr 67 [(5,v'),(6,strV (scriptK (K % 10)))] a'/\w'.ownsRow base 122 3 v' (2+ys.length) (cs++ys.flatMap FlX.cells)/\(∀ y ∈ ys,Sl w' No 5 y.vv y.f.b.length (bv y.f.b))/\ys.map FlX.f=(if K % 10=8 then [⟨bigT,false,bigB⟩] else [])/\Mod (fun q=>v5.ownBlock=some q) w w') Nope) a w:=by
 refine wp_part fun J K' hJ hK=>?_
 have HJ:=zh hJ
 clear hJ
 obtain ⟨ts,ds⟩:=a
 obtain ⟨hsz,hds,hs5,hs6,hs27,-⟩:=hF
 dsimp only at hsz hds hs5 hs6 hs27
 subst hds
 obtain ⟨c,rfl,hc⟩:=lit67 ts hsz
 rw [hc] at hs5
 rw [hc] at hs6
 rw [hc] at hs27
 simp only [hs5,hs6,hs27]
 clear hc hsz hs5 hs6 hs27
 have HO:=zh hown
 have HB:=zh hb
 have HX0:=zh (show w.ownsRow base 122 3 v5 (2+0) (cs++([]:List FlX).flatMap FlX.cells) by simpa using hown)
 clear hown hb
 conv=>arg 2;whnf
 obtain ⟨kk,hkk⟩:∃ kk,kk=K % 10:=⟨_,rfl⟩
 have h10:=ten_cases K
 rw [<- hkk] at h10 HJ ⊢
 clear hkk
 rcases h10 with rfl | rfl | rfl | rfl | rfl | rfl | rfl | rfl | rfl | rfl
 ·go_wp2_with fail
  exact Met.intro (HJ.out _ _ ⟨v5,[],⟨rfl,rfl,rfl,rfl,trivial⟩,HX0.out,(fun y hy=>by cases hy),rfl,Mod.refl _ _⟩)
 ·go_wp2_with fail
  exact Met.intro (HJ.out _ _ ⟨v5,[],⟨rfl,rfl,rfl,rfl,trivial⟩,HX0.out,(fun y hy=>by cases hy),rfl,Mod.refl _ _⟩)
 ·go_wp2_with fail
  exact Met.intro (HJ.out _ _ ⟨v5,[],⟨rfl,rfl,rfl,rfl,trivial⟩,HX0.out,(fun y hy=>by cases hy),rfl,Mod.refl _ _⟩)
 ·go_wp2_with fail
  exact Met.intro (HJ.out _ _ ⟨v5,[],⟨rfl,rfl,rfl,rfl,trivial⟩,HX0.out,(fun y hy=>by cases hy),rfl,Mod.refl _ _⟩)
 ·go_wp2_with fail
  exact Met.intro (HJ.out _ _ ⟨v5,[],⟨rfl,rfl,rfl,rfl,trivial⟩,HX0.out,(fun y hy=>by cases hy),rfl,Mod.refl _ _⟩)
 ·go_wp2_with fail
  exact Met.intro (HJ.out _ _ ⟨v5,[],⟨rfl,rfl,rfl,rfl,trivial⟩,HX0.out,(fun y hy=>by cases hy),rfl,Mod.refl _ _⟩)
 ·go_wp2_with fail
  exact Met.intro (HJ.out _ _ ⟨v5,[],⟨rfl,rfl,rfl,rfl,trivial⟩,HX0.out,(fun y hy=>by cases hy),rfl,Mod.refl _ _⟩)
 ·go_wp2_with fail
  exact Met.intro (HJ.out _ _ ⟨v5,[],⟨rfl,rfl,rfl,rfl,trivial⟩,HX0.out,(fun y hy=>by cases hy),rfl,Mod.refl _ _⟩)
 ·go_wp2_with fail
  go_loopw [7,8] (fun q7 q8 wr=>∃ (k:Nat) (u:Value),k<=200/\q8=.int .i64 (k:Int)/\q7=u/\wr.ownsRow w.heap.size 5 1 u k (bv (bigB.take k))/\Mod No w wr) (fun _ q _=>200 - (intOf q).toNat)
  case atStart=>exact ⟨0,.slice none 0 0,by omega,rfl,rfl,⟨by simp,.inl ⟨rfl,rfl⟩⟩,Mod.refl _ _⟩
  case round =>
   obtain ⟨k,u,hk,rfl,rfl,hown,hm⟩:=hrel
   have HM:=zh hm
   have HU:=zh hown
   have hk0:(0:Int)<=(k:Int):=Int.natCast_nonneg _
   obtain ⟨ua,uc,rfl⟩:=own_len hown
   clear hm hown
   by_cases hlt:k < 200
   ·have hk1:(k:Int) < 200:=by omega
    have HTK:=zh (bigB_take hlt)
    have hwk:IntKind.u8.wrap (k:Int)=(k:Int):=by rw [IntKind.wrap_u8];omega
    have hmk:(k:Int) % 256=(k:Int):=by omega
    obtain ⟨i0,hi0,hz0,hz1,hz2⟩:=info_parts info_byte
    have HUA:=zh (own_keepM HU.out ((Mod.refl No wr).alloc (.cells #[.int .u8 (k:Int)] 5)) (fun _ _ f=>f))
    go_wp2_with (at_builtin;refine app_sl _ rfl _ _ 29 rfl w.heap.size 5 i0 (.int .u8 0) 1 1 underlying29 hi0 hz0 hz1 hz2 rfl (by decide) _ k (bv (bigB.take k)) rfl HUA.out No 5 (.slice (some ⟨wr.heap.size,0,none⟩) 1 1) 1 [.int .u8 (k:Int)] rfl (.inr ⟨wr.heap.size,0,1,_,(0,0),rfl,Nat.le_refl _,by unfold maxLen;omega,fun f=>f,heap_alloc_new wr _,by simp,fun i hi=>by simp⟩) rfl (fun u hu=>by rw [List.mem_singleton.1 hu];rfl) (by unfold maxLen;omega) (by omega) (Nat.le_trans HM.out.size ((Mod.refl No wr).alloc _).size) ?_;intro v7 w7 hown7 hg7 _;have HO7:=zh hown7;have HG7:=zh hg7;clear hown7 hg7)
    have HM7:=zh (show Mod No w w7 from (HM.out.alloc (.cells #[.int .u8 (k:Int)] 5)).then (Mod.of_grown (S:=fun q=>w.heap.size<=q) HG7.out (fun q e _=>own_base HU.out e)) (fun q hq e=>absurd e (by omega)))
    refine ⟨⟨k+1,v7,by omega,rfl,rfl,?_,HM7.out⟩,by show 200 - ((k:Int)+1).toNat < 200 - (k:Int).toNat;omega⟩
    have h9:=HO7.out
    rw [HTK.out,bv_append]
    rw [show bv [UInt8.ofNat k]=[.int .u8 (k:Int)] by
     unfold bv
     simp only [List.map_cons,List.map_nil,UInt8.toNat_ofNat']
     rw [Nat.mod_eq_of_lt (by omega)]]
    exact h9
   ·obtain rfl:k=200:=by omega
    have HBT:=zh (show bigB.take 200=bigB from List.take_of_length_le (by rw [bigB_length];omega))
    have HUS:=zh (show Sl wr No 5 (.slice ua 200 uc) bigB.length (bv bigB) by
     have h9:=Sl.of_own (X:=No) HU.out (fun _ _ f=>f)
     rw [HBT.out] at h9
     rw [bigB_length]
     exact h9)
    obtain ⟨i0,hi0,hz0,hz1,hz2⟩:=info_parts info_file
    have HOA:=zh (own_keepM HO.out (HM.out.alloc (.cells #[.string ⟨#[98,105,103]⟩,.bool false,.slice ua 200 uc] 122)) (fun _ _ f=>f))
    go_wp2_with (at_builtin;refine app_sl _ rfl _ _ 74 rfl base 122 i0 _ 3 48 underlying74 hi0 hz0 hz1 hz2 rfl (by decide) v5 2 cs rfl HOA.out No 122 (.slice (some ⟨wr.heap.size,0,none⟩) 1 1) 1 [.string ⟨#[98,105,103]⟩,.bool false,.slice ua 200 uc] rfl (.inr ⟨wr.heap.size,0,1,_,(0,0),rfl,Nat.le_refl _,by unfold maxLen;omega,fun f=>f,heap_alloc_new wr _,by simp,fun i hi=>by simp⟩) rfl (fun u hu=>by simp only [List.mem_cons,List.not_mem_nil,or_false] at hu;rcases hu with rfl | rfl | rfl <;> rfl) (by unfold maxLen;omega) (by omega) (Nat.le_trans HB.out (Nat.le_trans HM.out.size ((Mod.refl No wr).alloc _).size)) ?_;intro v7 w7 hown7 hg7 _;have HO7:=zh hown7;have HG7:=zh hg7;clear hown7 hg7)
    have HM7:=zh (show Mod (fun q=>v5.ownBlock=some q) w w7 from ((HM.out.alloc (.cells #[.string ⟨#[98,105,103]⟩,.bool false,.slice ua 200 uc] 122)).weaken (fun _ _ f=>f.elim)).trans (Mod.of_grown HG7.out (fun q e _=>e)))
    have hap:=own_apartF HOA.out (ts:=[5]) (by decide)
    exact Met.intro (HJ.out _ _ ⟨v7,[⟨⟨bigT,false,bigB⟩,.slice ua 200 uc⟩],⟨rfl,rfl,rfl,rfl,trivial⟩,(by have h9:=HO7.out;exact h9),(fun y hy=>by
     obtain rfl:=List.mem_singleton.1 hy
     exact ((HUS.out.keep (S:=No) ((Mod.refl No wr).alloc _) (fun _ _ _ f=>f.elim)).apart (Mod.of_grown (S:=fun q=>v5.ownBlock=some q) HG7.out (fun q e _=>e)) hap)),rfl,HM7.out⟩)
 ·go_wp2_with fail
  exact Met.intro (HJ.out _ _ ⟨v5,[],⟨rfl,rfl,rfl,rfl,trivial⟩,HX0.out,(fun y hy=>by cases hy),rfl,Mod.refl _ _⟩)
set_option maxRecDepth 100000 in
set_option maxHeartbeats 16000000 in
theorem files_any (N V:Nat) (nd:List Nat) (na:Option Addr) (nn nc:Nat) (K L:Nat) (w:World) :
  Calls prog 34 #[.agg #[.int .u8 (N:Int),.int .u8 (V:Int),.slice na nn nc,.int .u8 (K:Int),.int .u8 (L:Int)]] w fun e w'=>(∃ v' xs,e=.returned v'/\FlsAt w' v' xs/\xs.map FlX.f=filesK ⟨N,V,nd,K,L⟩)/\Mod No w w':=by
 refine calls_hide fun R hR=>?_
 have hvl:=verTK_le V
 have hnl:(nameK N).length=1:=rfl
 have HFK:=zh (show filesK ⟨N,V,nd,K,L⟩=[⟨libT,true,[]⟩,⟨libT++47 :: nameK N,false,nameK N++32 :: verTK V⟩]++(if K % 10=8 then [⟨bigT,false,bigB⟩] else [])++(if scriptK (K % 10)=[] then [] else [⟨buildT,false,scriptK (K % 10)⟩]) from rfl)
 go_enter func34,ntmps34
 go_upto_region 1 with fail
 obtain ⟨gb,hgb⟩:∃ g,g=w.heap.size:=⟨_,rfl⟩
 rw [<- hgb]
 generalize hw1:World.alloc w _=w1
 have HG1:=zh (show w1.heap[gb]? = some (.cells #[.int .u8 (N:Int),.int .u8 (V:Int),.slice na nn nc,.int .u8 (K:Int),.int .u8 (L:Int)] 72 (0,0)) by rw [<- hw1,hgb];exact heap_alloc_new w _)
 have HM1:=zh (show Mod No w w1 by rw [<- hw1];exact (Mod.refl No w).alloc _)
 clear hw1 hgb
 obtain ⟨wD,hwD⟩:∃ y,y=w1.drew:=⟨_,rfl⟩
 have hmD:Mod No w1 wD:=by rw [hwD];exact (Mod.refl No w1).drew
 have HMD:=zh (HM1.out.trans hmD)
 have HGD:=zh (hmD.keep HG1.out (fun f=>f))
 have HSM:=zh (show ∀ w',Mod No wD w'->w'.cell? ⟨gb,0,none⟩=some (.int .u8 (N:Int))/\w'.cell? ⟨gb,1,none⟩=some (.int .u8 (V:Int)) from fun w' h =>
  ⟨cell_ofA (h.keep HGD.out (fun f=>f)) rfl,cell_ofA (h.keep HGD.out (fun f=>f)) rfl⟩)
 have HWD:=zh hwD
 have hS0:=Mod.refl No wD
 clear hwD hmD HG1 HM1
 refine wp_region_T (fun w'=>Mod No wD w') 99 (by kernel_rfl) ?_
 rw [<- HWD.out]
 refine yT 0 (some 9) ?_ hS0 ?_ ?_
 rotate_left
 ·(intro w' hSw;have q0:=(HSM.out w' hSw).1;have q1:=(HSM.out w' hSw).2;go_simp;try with_reducible rfl)
 simp only [Act.put,yB,yC,yD]
 refine yT 1 (some 10) ?_ hS0 ?_ ?_
 rotate_left
 ·(intro w' hSw;have q0:=(HSM.out w' hSw).1;have q1:=(HSM.out w' hSw).2;go_simp;try with_reducible rfl)
 simp only [Act.put,yB,yC,yD]
 refine yT 3 (some 12) ?_ hS0 ?_ ?_
 rotate_left
 ·(intro w' hSw;have q0:=(HSM.out w' hSw).1;have q1:=(HSM.out w' hSw).2;go_simp;try with_reducible rfl)
 simp only [Act.put,yB,yC,yD]
 refine yT 4 (some 13) ?_ hS0 ?_ ?_
 rotate_left
 ·(intro w' hSw;have q0:=(HSM.out w' hSw).1;have q1:=(HSM.out w' hSw).2;go_simp;try with_reducible rfl)
 simp only [Act.put,yB,yC,yD]
 refine wpAnyT_one 2 rfl (by kernel_rfl) rfl ?_
 intro K hK
 go_simp
 go_at_call 28
 with_reducible refine (seatname_any N wD).mono ?_
 rintro e wE ⟨rfl,hwE⟩
 have HMwE:=zh (show Mod No wD wE by rw [hwE];exact Mod.refl _ _)
 clear hwE
 show K _ _
 have hS1:=HMwE.out
 refine hK.out _ _ (fun _=>hS1) ?_
 clear hK K
 refine wpAnyT_one 5 rfl (by kernel_rfl) rfl ?_
 intro K hK
 go_simp
 go_at_call 25
 with_reducible refine (seatversion_any V wE).mono ?_
 rintro e wF ⟨rfl,hwF⟩
 have HMwF:=zh (HMwE.out.trans hwF)
 clear hwF
 show K _ _
 have hS2:=HMwF.out
 refine hK.out _ _ (fun _=>hS2) ?_
 clear hK K
 refine yT 6 (some 3) ?_ hS2 ?_ ?_
 rotate_left
 ·(intro w' hSw;have q0:=(HSM.out w' hSw).1;have q1:=(HSM.out w' hSw).2;go_simp;try with_reducible rfl)
 simp only [Act.put,yB,yC,yD]
 refine yT 7 (some 4) ?_ hS2 ?_ ?_
 rotate_left
 ·(intro w' hSw;have q0:=(HSM.out w' hSw).1;have q1:=(HSM.out w' hSw).2;go_simp;try with_reducible rfl)
 simp only [Act.put]
 refine wpAnyT_done (by kernel_rfl) ?_ _
 clear hS0 hS1 hS2
 have HMF:=zh (HMD.out.trans HMwF.out)
 clear HMwE HSM
 unfold strV
 obtain ⟨TX,hTX⟩:∃ TX,TX=nameK N++32 :: verTK V:=⟨_,rfl⟩
 have htl:TX.length<=20:=by rw [hTX,List.length_append,List.length_cons];omega
 obtain ⟨c1,wG,hcv,hsl,hm⟩:=bytes_new wF TX (by omega)
 have hca:(⟨#[108,105,98,47]⟩:ByteArray) ++ ⟨(nameK N).toArray⟩=⟨(libT++47 :: nameK N).toArray⟩:=str_app [108,105,98,47] (nameK N)
 have hcb:(⟨(nameK N).toArray⟩:ByteArray) ++ ⟨#[32]⟩ ++ ⟨(verTK V).toArray⟩=⟨TX.toArray⟩:=by rw [hTX,str_dot,str_app];simp
 have hz1:(⟨(nameK N).toArray⟩:ByteArray).size=(nameK N).length:=str_len3 _
 have hz2:(⟨(verTK V).toArray⟩:ByteArray).size=(verTK V).length:=str_len3 _
 have HTX:=zh hTX
 have hsk:=scriptK_le (K % 10)
 have HSLG:=zh hsl
 have HMG:=zh (HMF.out.trans hm)
 have HMX:=zh (HMwF.out.trans hm)
 clear hTX hsl hm
 generalize nameK N=NN at *
 generalize verTK V=VV at *
 go_upto_region 3 with fail
 obtain ⟨fb,hfb⟩:∃ g,g=wG.heap.size:=⟨_,rfl⟩
 rw [<- hfb]
 generalize hwH:World.alloc wG _=wH
 have hmH:Mod No wG wH:=by rw [<- hwH];exact (Mod.refl No wG).alloc _
 have HMH:=zh (HMG.out.trans hmH)
 have HSLH:=zh (HSLG.out.kn hmH)
 have HOF:=zh (show wH.ownsRow w.heap.size 122 3 (.slice (some ⟨fb,0,none⟩) 2 2) 2 [.string ⟨#[108,105,98]⟩,.bool true,.slice none 0 0,.string ⟨(libT++47 :: NN).toArray⟩,.bool false,.slice (some ⟨wF.heap.size,0,none⟩) TX.length c1] from ⟨rfl,.inr ⟨fb,2,_,rfl,by rw [hfb];exact HMG.out.size,by rw [<- hwH,hfb];exact heap_alloc_new wG _,Nat.le_refl _,by unfold maxLen;omega,rfl,rfl⟩⟩)
 have hc3:wH.cell? ⟨gb,3,none⟩=some (.int .u8 (K:Int)):=cell_ofA ((HMX.out.trans hmH).keep HGD.out (fun f=>f)) rfl
 have hm:(K:Int).tmod 10=((K % 10:Nat):Int):=(Int.ofNat_tmod K 10).symm
 have hm2:(K:Int) % 10=((K % 10:Nat):Int):=by omega
 have HSW:=zh (fun a=>sw_part K w.heap.size (.slice (some ⟨fb,0,none⟩) 2 2) [.string ⟨#[108,105,98]⟩,.bool true,.slice none 0 0,.string ⟨(libT++47 :: NN).toArray⟩,.bool false,.slice (some ⟨wF.heap.size,0,none⟩) TX.length c1] a wH HOF.out HMH.out.size)
 clear hfb hwH hmH hcv hca hcb
 generalize K % 10=kk at *
 go_upto_block 0 with fail
 refine wp_only (HSW.out _ ⟨rfl,rfl,rfl,rfl,rfl,trivial⟩) ?_
 rintro a9 w9 ⟨v9,ys,hF9,hown9,hys9,hym9,hm9⟩
 have HO9:=zh hown9
 have HY9:=zh hys9
 have HYM:=zh hym9
 have hyl:ys.length<=1:=by rw [<- List.length_map (f:=FlX.f),hym9];split <;> simp
 have HM9:=zh (show Mod No w w9 from HMH.out.then hm9 (fun q hq e=>by have h1:=own_base HOF.out e;omega))
 have HS9:=zh (show Sl w9 No 5 (.slice (some ⟨wF.heap.size,0,none⟩) TX.length c1) TX.length (bv TX) from HSLH.out.apart hm9 (own_apartF HOF.out (by decide)))
 clear hown9 hys9 hym9 hm9 HSW HOF HSLH hc3
 rename_i K1 hK1
 refine hK1 _ _ ?_
 clear hK1 K1
 obtain ⟨ts,ds⟩:=a9
 obtain ⟨hsz,hds,hs5,hs6,-⟩:=hF9
 dsimp only at hsz hds hs5 hs6
 subst hds
 obtain ⟨c,rfl,hc⟩:=lit67 ts hsz
 rw [hc] at hs5
 rw [hc] at hs6
 simp only [hs5,hs6]
 clear hc hsz hs5 hs6
 have hy2:∀ u ∈ ys.flatMap FlX.cells,u.oneCell'=true:=fun u hu=>by
  obtain ⟨y,hy,hu⟩:=List.mem_flatMap.1 hu
  obtain ⟨a1,a2,e⟩:=(HY9.out y hy).len
  unfold FlX.cells at hu
  rw [e] at hu
  simp only [List.mem_cons,List.not_mem_nil,or_false] at hu
  rcases hu with rfl | rfl | rfl <;> rfl
 obtain ⟨xs2,hxs2⟩:∃ xs2:List FlX,xs2=[⟨⟨libT,true,[]⟩,.slice none 0 0⟩,⟨⟨libT++47 :: NN,false,TX⟩,.slice (some ⟨wF.heap.size,0,none⟩) TX.length c1⟩]++ys:=⟨_,rfl⟩
 have hxl:xs2.length=2+ys.length:=by rw [hxs2,List.length_append];rfl
 have HO2:=zh (show w9.ownsRow w.heap.size 122 3 v9 xs2.length (xs2.flatMap FlX.cells) by rw [hxl,hxs2,List.flatMap_append];exact HO9.out)
 have HE2:=zh (show ∀ x ∈ xs2,Sl w9 No 5 x.vv x.f.b.length (bv x.f.b) from fun x hx=>by
  rw [hxs2] at hx
  rcases List.mem_append.1 hx with hx | hx
  ·rcases List.mem_cons.1 hx with rfl | hx
   ·exact .inl ⟨rfl,rfl,rfl⟩
   ·obtain rfl:=List.mem_singleton.1 hx
    exact HS9.out
  ·exact HY9.out x hx)
 have HM2:=zh (show xs2.map FlX.f=[⟨libT,true,[]⟩,⟨libT++47 :: NN,false,NN++32 :: VV⟩]++(if kk=8 then [⟨bigT,false,bigB⟩] else []) by rw [hxs2,List.map_append,HYM.out,<- HTX.out];rfl)
 clear hxs2 HO9 HY9 HYM HS9
 generalize scriptK kk=s at *
 by_cases hs:s=[]
 ·subst hs
  unfold strV
  obtain ⟨qa,qc,rfl⟩:=own_len HO2.out
  clear hxl
  go_wp2_with fail
  exact fin hR ⟨⟨_,xs2,rfl,⟨HE2.out,Sl.of_own HO2.out (fun _ _ f=>f)⟩,by rw [HM2.out,HFK.out];simp⟩,HM9.out⟩
 ·have hse:(⟨s.toArray⟩:ByteArray).toList.isEmpty=false:=by rw [str_list];cases s with | nil=>exact absurd rfl hs | cons c l=>rfl
  obtain ⟨c2,wI,hcv,hsl2,hmI⟩:=bytes_new w9 s (by omega)
  have HSI:=zh hsl2
  have HMI:=zh hmI
  obtain ⟨i0,hi0,hz0,hz1,hz2⟩:=info_parts info_file
  have HFK2:=zh (show filesK ⟨N,V,nd,K,L⟩=xs2.map FlX.f++[⟨buildT,false,s⟩] by rw [HFK.out,HM2.out,if_neg hs])
  unfold strV
  generalize hSS:(⟨s.toArray⟩:ByteArray)=SS at *
  have HOA:=zh (own_keepM HO2.out (hmI.alloc (.cells #[.string ⟨#[98,117,105,108,100,46,104,115]⟩,.bool false,.slice (some ⟨w9.heap.size,0,none⟩) s.length c2] 122)) (fun _ _ f=>f))
  clear hsl2 hmI HFK hSS hs
  go_wp2_with (at_builtin;refine app_sl _ rfl _ _ 74 rfl w.heap.size 122 i0 _ 3 48 underlying74 hi0 hz0 hz1 hz2 rfl (by decide) v9 _ _ rfl HOA.out No 122 (.slice (some ⟨wI.heap.size,0,none⟩) 1 1) 1 [.string ⟨#[98,117,105,108,100,46,104,115]⟩,.bool false,.slice (some ⟨w9.heap.size,0,none⟩) s.length c2] rfl (.inr ⟨wI.heap.size,0,1,_,(0,0),rfl,Nat.le_refl _,by unfold maxLen;omega,fun f=>f,heap_alloc_new wI _,by simp,fun i hi=>by simp⟩) rfl (fun u hu=>by simp only [List.mem_cons,List.not_mem_nil,or_false] at hu;rcases hu with rfl | rfl | rfl <;> rfl) (by rw [hxl];unfold maxLen;omega) (by rw [hxl];omega) (Nat.le_trans HM9.out.size (Nat.le_trans HMI.out.size ((Mod.refl No wI).alloc _).size)) ?_;intro v7 w7 hown7 hg7 _;have HO7:=zh hown7;have HG7:=zh hg7;clear hown7 hg7)
  have hap:=own_apartF HOA.out (ts:=[5]) (by decide)
  have hmg:=Mod.of_grown (S:=fun q=>v9.ownBlock=some q) HG7.out (fun q e _=>e)
  have hma:=(HMI.out.alloc (.cells #[.string ⟨#[98,117,105,108,100,46,104,115]⟩,.bool false,.slice (some ⟨w9.heap.size,0,none⟩) s.length c2] 122))
  refine fin hR ⟨⟨v7,xs2++[⟨⟨buildT,false,s⟩,.slice (some ⟨w9.heap.size,0,none⟩) s.length c2⟩],rfl,⟨fun x hx=>?_,?_⟩,by rw [HFK2.out,List.map_append];rfl⟩,(HM9.out.trans hma).then hmg (fun q hq e=>by have h1:=own_base HO2.out e;omega)⟩
  ·rcases List.mem_append.1 hx with hx | hx
   ·exact ((HE2.out x hx).kn hma).apart hmg hap
   ·obtain rfl:=List.mem_singleton.1 hx
    exact (HSI.out.keep (S:=No) ((Mod.refl No wI).alloc _) (fun _ _ _ f=>f.elim)).apart hmg hap
  ·rw [List.length_append,List.flatMap_append]
   exact Sl.of_own (by have h9:=HO7.out;exact h9) (fun _ _ f=>f)
end Go.Proofs.YtgiigemfbebcgaaGreatDoor
