/-
  Layers 0 to 14: helps of the laws of indexes. No statement is proved here; no condition.
-/
import Derived.Test.YtgiigemfbebcgaaGreatDoorT32
import Derived.Test.YtgiigemfbebcgaaGreatDoorT01
namespace Go.Proofs.YtgiigemfbebcgaaGreatDoor
open _root_.Go.Proofs.Tryz
open Go.RowKit
theorem lineP_none {s:List UInt8} (h1:headC 32 s ≠ packT) (h2:headC 32 s=needT):lineP [] s=none:=by
 unfold lineP
 rw [if_neg h1,if_pos h2]
 rfl
theorem lineP_last {s:List UInt8} {zs:List Rw} {r:Rw} (h1:headC 32 s ≠ packT) (h2:headC 32 s=needT):lineP (zs++[r]) s=(needLine s).bind fun n=>if n.name=r.name\/n.name ∈ r.needs.map Nd.name\/r.needs.length=20 then none else some (zs++[{ r with needs:=r.needs++[n] }]):=by
 unfold lineP
 rw [if_neg h1,if_pos h2]
 rw [List.getLast?_append]
 simp only [List.getLast?_singleton,Option.some_or,List.dropLast_concat]
theorem flat_lengthM {α:Type} {f:α->List Value} {wd:Nat}:∀ (xs:List α) (_:∀ x ∈ xs,(f x).length=wd),(xs.flatMap f).length=xs.length*wd
 | [],_=>by simp
 | x :: xs,h=>by
  rw [List.flatMap_cons,List.length_append,h x (by simp),flat_lengthM xs (fun y hy=>h y (by simp [hy])),List.length_cons,Nat.succ_mul,Nat.add_comm]
theorem cells_new {w:World} {cs:List Value} {e:TypeId} {j:Nat} {u:Value} (h:cs[j]? = some u):(w.alloc (.cells cs.toArray e)).cell? ((⟨w.heap.size,0,none⟩:Addr).add j)=some u:=by
 rw [Addr.add_lit,Nat.zero_add]
 exact cell_ofA (heap_alloc_new w _) (by simpa using h)
set_option maxRecDepth 100000 in
set_option maxHeartbeats 8000000 in
theorem line_any (B:Nat) (xs:List RwX) (hxs:xs.length<=200) (rv:Value) (s:List UInt8) (hl:s.length<=100000) (w:World) (hgl:Gl w) (hrv:RowsW B w rv xs) (hwB:B<=w.heap.size) :
  Calls prog 40 #[rv,strV s] w fun e w'=>LineRes B w' (xs.map RwX.r) s e/\Mod (fun k=>B<=k) w w':=by
 refine calls_hide fun R hR=>?_
 have HCU:=zh (fun w h=>cut_any 32 s (by omega) w h)
 have HRW:=zh (fun w h=>row_any s hl w h)
 have HND:=zh (fun w h=>need_any s (by omega) w h)
 have HG:=zh hgl
 have HRV:=zh hrv
 obtain ⟨rn,hrn⟩:∃ n,n=xs.length:=⟨_,rfl⟩
 obtain ⟨ra,rc,hrva⟩:=hrv.sl.len
 rw [<- hrn] at hrva
 subst hrva
 have hr200:rn<=200:=by omega
 have HRN:=zh hrn
 clear hrn
 have hT:=str_list (headC 32 s)
 have HB2:=zh hwB
 clear hrv hgl
 unfold strV at *
 generalize (⟨(headC 32 s).toArray⟩:ByteArray)=H at *
 generalize (⟨(tailC 32 s).toArray⟩:ByteArray)=T at *
 generalize (⟨s.toArray⟩:ByteArray)=Z at *
 go_enter func40,ntmps40
 go_wp2_with fail
 with_reducible refine (HCU.out _ HG.out).mono ?_
 rintro e w2 ⟨rfl,hm2⟩
 have HM2:=zh hm2
 have HR2:=zh (HRV.out.no hm2)
 have HG2:=zh (HG.out.stay hm2 (fun f=>f))
 clear hm2 HCU
 by_cases hpk:headC 32 s=packT
 ·have HLP:=zh (show lineP (xs.map RwX.r) s=(rowLine s).bind fun r=>if (atL (xs.map RwX.r) r.name r.v).isSome\/200<=(xs.map RwX.r).length then none else some (xs.map RwX.r++[r]) by unfold lineP;rw [if_pos hpk])
  have hH:H.toList=[112,97,99,107]:=by rw [hT,hpk];rfl
  clear hT
  go_wp2_with fail
  with_reducible refine (HRW.out _ HG2.out).mono ?_
  rintro e w3 ⟨⟨x,rok,rfl,hx1,hx2,hx3,hx4,hx5,hx6⟩,hm3⟩
  have HM3:=zh (HM2.out.trans hm3)
  have HR3:=zh (HR2.out.no hm3)
  have HX3:=zh (show RwOk w3 x from ⟨hx1,hx2,hx3.shrink (fun _ _ f=>f.elim),_,_,_,hx4⟩)
  have HX4:=zh hx4
  have HX5:=zh hx5
  have HX6:=zh hx6
  obtain ⟨cs,hcs⟩:∃ cs,cs=(RwX.cells x).toArray:=⟨_,rfl⟩
  rw [<- hcs]
  have HCS:=zh hcs
  have HCL:=zh (show cs.size=39 by rw [hcs];exact RwX.cells_length x hx1)
  have HC1:=zh (show cs.all (·.oneCell')=true by rw [hcs];exact rows_one HX3.out)
  clear hm3 hx1 hx2 hx3 hx4 hx5 hx6 hcs HM2 HR2 HG2 HRW
  go_upto_region 5 with (refine wpList_store_row rfl 46 _ _ rfl w3.heap.size cs rfl rfl 46 _ (heap_alloc_new w3 _) (by rw [HCL.out];exact row_info) (by rw [HCL.out];rfl) HC1.out ?_)
  obtain ⟨gb,hgb⟩:∃ g,g=w3.heap.size:=⟨_,rfl⟩
  rw [<- hgb]
  generalize hw4:World.setRow _ gb cs=w4
  have HG4:=zh (show w4.heap[gb]? = some (.cells cs 46 (0,0)) by rw [<- hw4,hgb];exact setRow_heap _ _ _ _ _ _ (heap_alloc_new w3 _))
  have hm4:Mod No w3 w4:=by rw [<- hw4,hgb];exact ((Mod.refl No w3).alloc _).setRow (fun h=>absurd h (by omega)) _
  have HM4:=zh (HM3.out.trans hm4)
  have HR4:=zh (HR3.out.no hm4)
  have HX4b:=zh (HX3.out.keep hm4 (Apart.no _ _))
  clear hw4 hm4 hgb HM3 HR3 HX3
  obtain ⟨pa,pc,hpv⟩:=HX4b.out.pre.len
  have HFD:=zh (find_any xs (by omega) x.r.name x.r.v x.pv (.slice ra rn rc) w4 (fun y hy=>(HR4.out.each y hy).at) HX4b.out.small HX4b.out.pre HR4.out.sl)
  have c0:w4.cell? ⟨gb,0,none⟩=some (strV x.r.name):=cell_ofA HG4.out (by rw [HCS.out];rfl)
  have c1:w4.cell? ⟨gb,1,none⟩=some (.int .i64 x.r.v.ma):=cell_ofA HG4.out (by rw [HCS.out];rfl)
  have c2:w4.cell? ⟨gb,2,none⟩=some (.int .i64 x.r.v.mi):=cell_ofA HG4.out (by rw [HCS.out];rfl)
  have c3:w4.cell? ⟨gb,3,none⟩=some (.int .i64 x.r.v.pa):=cell_ofA HG4.out (by rw [HCS.out];rfl)
  have c4:w4.cell? ⟨gb,4,none⟩=some (x.pv):=cell_ofA HG4.out (by rw [HCS.out];rfl)
  unfold strV verV at *
  rw [hpv] at c4 HFD
  generalize (⟨x.r.name.toArray⟩:ByteArray)=A at *
  go_wp2_with fail
  with_reducible refine HFD.out.mono ?_
  rintro e w5 ⟨hf,hm5⟩
  obtain ⟨ds,rfl,hds,hd1⟩:=find_u hf
  have HDS:=zh hds
  have HD1:=zh hd1
  have HM5:=zh (HM4.out.trans hm5)
  have HR5:=zh (HR4.out.no hm5)
  have HG5:=zh (hm5.keep HG4.out (fun f=>f))
  have HX5b:=zh (HX4b.out.keep hm5 (Apart.no _ _))
  clear hm5 hf hds hd1 HFD HM4 HR4 HG4 HX4b c0 c1 c2 c3 c4
  obtain ⟨there,hth⟩:∃ b,b=(atL (xs.map RwX.r) x.r.name x.r.v).isSome:=⟨_,rfl⟩
  rw [<- hth]
  have HTH:=zh hth
  clear hth
  go_upto_region 6 with (refine wpList_store_row rfl 46 _ _ rfl w5.heap.size ds rfl rfl 46 _ (heap_alloc_new w5 _) (by rw [HDS.out];exact row_info) (by rw [HDS.out];rfl) HD1.out ?_)
  generalize hw6:World.setRow _ _ ds=w6
  have hm6:Mod No w5 w6:=by rw [<- hw6];exact ((Mod.refl No w5).alloc _).setRow (fun h=>absurd h (by omega)) _
  have HM6:=zh (HM5.out.trans hm6)
  have HR6:=zh (HR5.out.no hm6)
  have HG6:=zh (hm6.keep HG5.out (fun f=>f))
  have HX6b:=zh (HX5b.out.keep hm6 (Apart.no _ _))
  clear hw6 hm6 HM5 HR5 HG5 HX5b HDS HD1
  have hlen:(xs.map RwX.r).length=rn:=by rw [List.length_map,<- HRN.out]
  have HL:=zh hlen
  obtain ⟨i0,hi0,hz0,hz1,hz2⟩:=info_parts info_row
  have HNW:=zh (show [Value.agg cs].flatMap (fun v=>v.cells.toList)=RwX.cells x by rw [HCS.out];simp [Value.cells])
  have HN1:=zh (show ∀ u ∈ [Value.agg cs].flatMap (fun v=>v.cells.toList),u.oneCell'=true by
   rw [HNW.out]
   intro u hu
   have h1:=HC1.out
   rw [HCS.out] at h1
   exact (Array.all_eq_true_iff_forall_mem.1 h1) u (by simpa using hu))
  have hB6:=HM6.out.size
  have HRO:=zh (show w6.ownsRow B 46 39 (.slice ra rn rc) rn (xs.flatMap RwX.cells) by have h1:=HR6.out.own;rw [<- HRN.out] at h1;exact h1)
  rename_i K6 hK6
  refine wp_region_lit ?_
  refine Great.wpList_runTo rfl (some 39) rfl (.slice ra rn rc) w6 rfl ?_
  refine wpList_load_row rfl 46 _ rfl gb rfl 46 cs (0,0) _ HG6.out underlying46 rfl (by rw [HCL.out];exact row_info) ?_
  refine Great.wpList_buildRows rfl 25 46 _ 39 [.agg cs] rfl (fun _=>40) w6.heap.size rfl _ rfl underlying25 (by kernel_rfl) (by kernel_rfl) (by decide) (by simp) (by simp) rfl (fun v hv=>by rw [List.mem_singleton.1 hv];exact HCL.out) (fun i hi=>by obtain rfl:i=0:=(by simpa using hi);rfl) ?_
  refine app_sl _ rfl _ _ 25 rfl B 46 i0 _ 39 128 underlying25 hi0 hz0 hz1 hz2 (by simp [rowCs,Value.cells]) (by decide) (.slice ra rn rc) rn (xs.flatMap RwX.cells) rfl (own_keepM HRO.out ((Mod.refl No w6).alloc _) (fun _ _ f=>f)) No 46 _ 1 ([Value.agg cs].flatMap (fun v=>v.cells.toList)) rfl (sl_new w6 _ _ (Nat.le_refl 1) (by unfold maxLen;omega)) (by rw [HNW.out];exact (RwX.cells_length x HX6b.out.sum)) HN1.out (by unfold maxLen;omega) (by omega) (by simp;omega) ?_
  intro v' w7 hown hgrow _
  have hma:Mod No w6 (w6.alloc (.cells ([Value.agg cs].flatMap (fun v=>v.cells.toList)).toArray 46)):=(Mod.refl No w6).alloc _
  have HR7:=zh (RowsW.push (HR6.out.no hma) hgrow (by rw [<- HRN.out,<- HNW.out];exact hown) (HX6b.out.keep hma (Apart.no _ _)) HX4.out HX5.out)
  have HM7:=zh (show Mod (fun k=>B<=k) w w7 from ((HM6.out.trans hma).no).trans (Mod.of_grown hgrow (fun k hk _=>by
   obtain ⟨_,⟨hv,_⟩ | ⟨g,cap,cur,hv,hg,_⟩⟩:=HRO.out
   ·rw [hv] at hk;cases hk
   ·rw [hv] at hk;cases hk;exact hg)))
  have HLR:=zh (show ∀ ok:Bool,ok=(rok && !there && decide (rn < 200))->LineRes B w7 (xs.map RwX.r) s (.returned (.tuple #[v',.bool ok])) from fun ok hok=>by
   refine ⟨v',ok,rfl,?_⟩
   rw [HLP.out,HL.out]
   have h6:=HX6.out
   have hth:=HTH.out
   subst hok
   cases rok with
   | false=>rw [if_neg (by simp)] at h6;simp [h6]
   | true =>
    rw [if_pos rfl] at h6
    rw [h6]
    simp only [Option.bind_some]
    rw [<- hth]
    cases there with
    | true=>simp
    | false =>
     by_cases h2:rn < 200
     ·have hc:¬ (false=true\/200<=rn):=by
       rintro (h | h)
       ·cases h
       ·omega
      have hd:decide (rn < 200)=true:=decide_eq_true h2
      rw [hd,if_neg hc]
      exact ⟨xs++[x],by simp,HR7.out,by have:=HRN.out;rw [List.length_append,List.length_singleton];omega⟩
     ·have hd:decide (rn < 200)=false:=decide_eq_false h2
      have hc:false=true\/200<=rn:=.inr (by omega)
      rw [hd,if_pos hc]
      rfl)
  clear hown hgrow hma HR7 HX4 HX5 HX6 HTH HLP HNW HN1 HRO HR6 HG6 HX6b HCL HC1 HCS HM6 HRN HL hi0 hz0 hz1 hz2
  rcases rok with _ | _
  ·have HE:=zh (HLR.out false (by simp))
   go_wp2_with fail
   exact fin hR ⟨HE.out,HM7.out⟩
  ·rcases there with _ | _
   ·by_cases h2:rn < 200
    ·have HE:=zh (HLR.out true (by simp [h2]))
     have h3:(rn:Int) < 200:=by omega
     go_wp2_with fail
     exact fin hR ⟨HE.out,HM7.out⟩
    ·have HE:=zh (HLR.out false (by simp [h2]))
     have h3:¬ ((rn:Int) < 200):=by omega
     go_wp2_with fail
     exact fin hR ⟨HE.out,HM7.out⟩
   ·have HE:=zh (HLR.out false (by simp))
    go_wp2_with fail
    exact fin hR ⟨HE.out,HM7.out⟩
 ·by_cases hnd:headC 32 s=needT
  ·have hH:H.toList=[110,101,101,100]:=by rw [hT,hnd];rfl
   have HLN:=zh (lineP_none hpk hnd)
   have HLL:=zh (fun zs r=>lineP_last (zs:=zs) (r:=r) hpk hnd)
   clear hT hpk hnd
   rcases List.eq_nil_or_concat xs with rfl | ⟨zs,x,rfl⟩
   ·obtain rfl:rn=0:=HRN.out
    have HE:=zh (show LineRes B w2 ([].map RwX.r) s (.returned (.tuple #[.slice ra 0 rc,.bool false])) from ⟨_,false,rfl,HLN.out⟩)
    go_wp2_with fail
    exact fin hR ⟨HE.out,HM2.out.no⟩
   ·rw [List.concat_eq_append] at *
    obtain ⟨k,hk⟩:∃ k,k=zs.length:=⟨_,rfl⟩
    have hrk:rn=k+1:=by rw [HRN.out,hk];simp
    have HLQ:=zh (show lineP ((zs++[x]).map RwX.r) s=(needLine s).bind fun n=>if n.name=x.r.name\/n.name ∈ x.r.needs.map Nd.name\/x.r.needs.length=20 then none else some (zs.map RwX.r++[{ x.r with needs:=x.r.needs++[n] }]) by
     rw [List.map_append];exact HLL.out _ _)
    have hrk0:((rn:Int) == 0)=false:=by simp;omega
    have hwr:wrap64 ((rn:Int) - 1)=(k:Int):=by unfold wrap64;omega
    have hk0:(0:Int)<=(k:Int):=Int.natCast_nonneg _
    have hk1:(k:Int) < (rn:Int):=by omega
    have HK:=zh hk
    have HRK:=zh hrk
    obtain ⟨g,hra⟩:∃ g,ra=some ⟨g,0,none⟩:=by
     obtain ⟨_,⟨hv,h0⟩ | ⟨g',cap,cur,hv,_⟩⟩:=HR2.out.own
     ·exact absurd h0 (by simp)
     ·cases hv;exact ⟨_,rfl⟩
    subst hra
    clear HLN HLL hk hrk
    go_wp2_with fail
    with_reducible refine (HND.out _ HG2.out).mono ?_
    rintro e w3 ⟨hv,hm3⟩
    rw [show rn - 1=k by have:=HRK.out;omega]
    have HM3:=zh (HM2.out.trans hm3)
    have HR3:=zh (HR2.out.no hm3)
    have HX3:=zh (HR3.out.each x (by simp))
    obtain ⟨ys,hy1,hy2,hy3⟩:=HX3.out.own
    have HY1:=zh hy1
    have hyl:ys.length=x.r.needs.length:=by rw [<- hy1,List.length_map]
    obtain ⟨na,nc,hnv⟩:=(Sl.of_own (X:=No) hy3 (fun _ _ f=>f)).len
    have hfew:=HX3.out.few
    clear hm3 hy1 HR2 HM2 HG2 HRV HG
    obtain ⟨m,hm⟩:∃ m,m=x.r.needs.length:=⟨_,rfl⟩
    rw [<- hm] at hfew hnv hy3 hyl HLQ
    have HY2:=zh hy2
    have HY3:=zh hy3
    have HNV:=zh hnv
    have HMM:=zh hm
    have hm0:(0:Int)<=(m:Int):=Int.natCast_nonneg _
    have hzl:(zs.flatMap RwX.cells).length=k*39:=by
     rw [HK.out]
     exact flat_lengthM zs (fun z hz=>RwX.cells_length z (HR3.out.each z (by simp [hz])).ok.sum)
    have hcell:∀ j u,(RwX.cells x)[j]? = some u->w3.cell? ⟨g,k*39+j,none⟩=some u:=fun j u hj=>by
     have h1:=HR3.out.own.cells (g:=g) rfl (k*39+j) u (by
      rw [List.flatMap_append,List.getElem?_append_right (by rw [hzl];omega),hzl,show k*39+j - k*39=j by omega]
      simpa using hj)
     simpa [Addr.add_lit] using h1
    have hcn:w3.cell? ⟨g,k*39,none⟩=some (strV x.r.name):=hcell 0 _ rfl
    have hcv:w3.cell? ⟨g,k*39+38,none⟩=some (.slice na m nc):=by rw [<- hnv];exact hcell 38 _ (rows_get38' HX3.out.ok.sum)
    have HGH:=zh (own_heapM HR3.out.own (k:=g) rfl)
    clear hcell hzl hy2 hy3 hnv hm
    obtain ⟨LN,hLN⟩:∃ b:ByteArray,b=⟨x.r.name.toArray⟩:=⟨_,rfl⟩
    have hLL:LN.toList=x.r.name:=by rw [hLN];exact str_list x.r.name
    unfold strV at hcn
    rw [<- hLN] at hcn
    clear hLN
    cases hnl:needLine s with
    | none =>
     rw [hnl] at hv
     obtain ⟨NM,an,oa,om,oc,TX,rfl⟩:=hv
     have HFAIL:=zh (show ∀ w',LineRes B w' ((zs++[x]).map RwX.r) s (.returned (.tuple #[.slice (some ⟨g,0,none⟩) rn rc,.bool false])) from fun w'=>⟨_,false,rfl,by rw [HLQ.out,hnl];rfl⟩)
     clear HLQ hnl
     go_upto_region 11 with fail
     obtain ⟨nb,hnb⟩:∃ g,g=w3.heap.size:=⟨_,rfl⟩
     rw [<- hnb]
     generalize hw4:World.alloc w3 _=w4
     obtain ⟨wA,hwA⟩:∃ z,z=w4.drew:=⟨_,rfl⟩
     have hm3A:Mod No w3 wA:=by rw [hwA,<- hw4];exact ((Mod.refl No w3).alloc _).drew
     have HM3A:=zh hm3A
     have HNB:=zh (show wA.heap[nb]? = some (.cells #[.string NM,.bool an,.slice oa om oc,.string TX] 81 (0,0)) by rw [hwA,<- hw4,hnb];exact heap_alloc_new w3 _)
     have HCN:=zh (hm3A.cell hcn (fun f=>f))
     have HCV:=zh (hm3A.cell hcv (fun f=>f))
     have HSB:=zh (show ∀ w',Mod No wA w'->w'.cell? ⟨nb,0,none⟩=some (.string NM)/\w'.cell? ⟨g,k*39,none⟩=some (.string LN)/\w'.cell? ⟨g,k*39+38,none⟩=some (.slice na m nc) from fun w' h =>
      ⟨cell_ofA (h.keep HNB.out (fun f=>f)) rfl,h.cell HCN.out (fun f=>f),h.cell HCV.out (fun f=>f)⟩)
     have hS0:=HSB.out wA (Mod.refl _ _)
     have HWA:=zh hwA
     have HMz:=zh ((HM3.out.trans hm3A).no (S:=fun k=>B<=k))
     have HNQ:=zh hnb
     clear hwA hw4 hm3A hcn hcv hnb
     refine wp_region_T (fun w'=>w'.cell? ⟨nb,0,none⟩=some (.string NM)/\w'.cell? ⟨g,k*39,none⟩=some (.string LN)/\w'.cell? ⟨g,k*39+38,none⟩=some (.slice na m nc)) 99 (by kernel_rfl) ?_
     rw [<- HWA.out]
     clear HWA
     refine yT 0 (some 68) ?_ hS0 ?_ ?_
     rotate_left
     ·(intro w' hSw;obtain ⟨q0,q1,q2⟩:=hSw;go_simp;try with_reducible rfl)
     simp only [Act.put,yB,yC,yD]
     refine yT 1 (some 69) ?_ hS0 ?_ ?_
     rotate_left
     ·(intro w' hSw;obtain ⟨q0,q1,q2⟩:=hSw;go_simp;try with_reducible rfl)
     simp only [Act.put,yB,yC,yD]
     refine yT 2 (some 70) ?_ hS0 ?_ ?_
     rotate_left
     ·(intro w' hSw;obtain ⟨q0,q1,q2⟩:=hSw;go_simp;try with_reducible rfl)
     simp only [Act.put,yB,yC,yD]
     refine wpAnyT_takeV 3 (some 71) undef rfl rfl (by kernel_rfl) (fun _ _ _ h=>h) hS0 (Or.inr ⟨by rfl,rfl⟩) ?_
     simp only [Act.put,yB,yC,yD]
     refine wpAnyT_takeV 4 (some 72) undef rfl rfl (by kernel_rfl) (fun _ _ _ h=>h) hS0 (Or.inr ⟨by rfl,rfl⟩) ?_
     simp only [Act.put,yB,yC,yD]
     refine wpAnyT_takeV 5 (some 73) undef rfl rfl (by kernel_rfl) (fun _ _ _ h=>h) hS0 (Or.inr ⟨by rfl,rfl⟩) ?_
     simp only [Act.put,yB,yC,yD]
     refine wpAnyT_takeV 6 (some 74) undef rfl rfl (by kernel_rfl) (fun _ _ _ h=>h) hS0 (Or.inr ⟨by rfl,rfl⟩) ?_
     simp only [Act.put,yB,yC,yD]
     refine wpAnyT_takeV 7 (some 75) undef rfl rfl (by kernel_rfl) (fun _ _ _ h=>h) hS0 (Or.inr ⟨by rfl,rfl⟩) ?_
     simp only [Act.put,yB,yC,yD]
     refine wpAnyT_takeV 8 (some 76) undef rfl rfl (by kernel_rfl) (fun _ _ _ h=>h) hS0 (Or.inr ⟨by rfl,rfl⟩) ?_
     simp only [Act.put,yB,yC,yD]
     refine wpAnyT_takeV 9 (some 77) undef rfl rfl (by kernel_rfl) (fun _ _ _ h=>h) hS0 (Or.inr ⟨by rfl,rfl⟩) ?_
     simp only [Act.put,yB,yC,yD]
     refine yT 10 (some 78) ?_ hS0 ?_ ?_
     rotate_left
     ·(intro w' hSw;obtain ⟨q0,q1,q2⟩:=hSw;go_simp;try with_reducible rfl)
     simp only [Act.put,yB,yC,yD]
     refine yT 11 (some 79) ?_ hS0 ?_ ?_
     rotate_left
     ·(intro w' hSw;obtain ⟨q0,q1,q2⟩:=hSw;go_simp;try with_reducible rfl)
     simp only [Act.put,yB,yC,yD]
     refine wpAnyT_takeV 12 (some 80) undef rfl rfl (by kernel_rfl) (fun _ _ _ h=>h) hS0 (Or.inr ⟨by rfl,rfl⟩) ?_
     simp only [Act.put,yB,yC,yD]
     refine wpAnyT_takeV 13 (some 81) undef rfl rfl (by kernel_rfl) (fun _ _ _ h=>h) hS0 (Or.inr ⟨by rfl,rfl⟩) ?_
     simp only [Act.put,yB,yC,yD]
     refine wpAnyT_takeV 14 (some 82) undef rfl rfl (by kernel_rfl) (fun _ _ _ h=>h) hS0 (Or.inr ⟨by rfl,rfl⟩) ?_
     simp only [Act.put,yB,yC,yD]
     refine wpAnyT_takeV 15 (some 83) undef rfl rfl (by kernel_rfl) (fun _ _ _ h=>h) hS0 (Or.inr ⟨by rfl,rfl⟩) ?_
     simp only [Act.put,yB,yC,yD]
     refine wpAnyT_takeV 16 (some 84) undef rfl rfl (by kernel_rfl) (fun _ _ _ h=>h) hS0 (Or.inr ⟨by rfl,rfl⟩) ?_
     simp only [Act.put,yB,yC,yD]
     refine wpAnyT_takeV 17 (some 85) undef rfl rfl (by kernel_rfl) (fun _ _ _ h=>h) hS0 (Or.inr ⟨by rfl,rfl⟩) ?_
     simp only [Act.put,yB,yC,yD]
     refine wpAnyT_takeV 18 (some 86) undef rfl rfl (by kernel_rfl) (fun _ _ _ h=>h) hS0 (Or.inr ⟨by rfl,rfl⟩) ?_
     simp only [Act.put,yB,yC,yD]
     refine yT 19 (some 87) ?_ hS0 ?_ ?_
     rotate_left
     ·(intro w' hSw;obtain ⟨q0,q1,q2⟩:=hSw;go_simp;try with_reducible rfl)
     simp only [Act.put,yB,yC,yD]
     refine yT 20 (some 88) ?_ hS0 ?_ ?_
     rotate_left
     ·(intro w' hSw;obtain ⟨q0,q1,q2⟩:=hSw;go_simp;try with_reducible rfl)
     simp only [Act.put,yB,yC,yD]
     refine wpAnyT_takeV 21 (some 89) undef rfl rfl (by kernel_rfl) (fun _ _ _ h=>h) hS0 (Or.inr ⟨by rfl,rfl⟩) ?_
     simp only [Act.put,yB,yC,yD]
     refine wpAnyT_takeV 22 (some 90) undef rfl rfl (by kernel_rfl) (fun _ _ _ h=>h) hS0 (Or.inr ⟨by rfl,rfl⟩) ?_
     simp only [Act.put,yB,yC,yD]
     refine wpAnyT_takeV 23 (some 91) undef rfl rfl (by kernel_rfl) (fun _ _ _ h=>h) hS0 (Or.inr ⟨by rfl,rfl⟩) ?_
     simp only [Act.put,yB,yC,yD]
     refine wpAnyT_takeV 24 (some 92) undef rfl rfl (by kernel_rfl) (fun _ _ _ h=>h) hS0 (Or.inr ⟨by rfl,rfl⟩) ?_
     simp only [Act.put,yB,yC,yD]
     refine wpAnyT_takeV 25 (some 93) undef rfl rfl (by kernel_rfl) (fun _ _ _ h=>h) hS0 (Or.inr ⟨by rfl,rfl⟩) ?_
     simp only [Act.put,yB,yC,yD]
     refine wpAnyT_takeV 26 (some 94) undef rfl rfl (by kernel_rfl) (fun _ _ _ h=>h) hS0 (Or.inr ⟨by rfl,rfl⟩) ?_
     simp only [Act.put,yB,yC,yD]
     refine yT 27 (some 95) ?_ hS0 ?_ ?_
     rotate_left
     ·(intro w' hSw;obtain ⟨q0,q1,q2⟩:=hSw;go_simp;try with_reducible rfl)
     simp only [Act.put]
     refine wpAnyT_done (by kernel_rfl) ?_ _
     go_wp2_with fail
     exact fin hR ⟨HFAIL.out _,HMz.out⟩
    | some n =>
     rw [hnl] at hv
     obtain ⟨oa,om,oc,rfl,hor⟩:=hv
     have HOR:=zh hor
     have HHAS:=zh (fun W (hm:Mod No w3 W)=>has_any ys (by omega) (fun y hy=>by
      obtain ⟨os,-,-,h⟩:=HY2.out y hy
      obtain ⟨a,c,e⟩:=h.len
      exact ⟨a,_,c,e⟩) n.name (.slice na m nc) W (by rw [hyl,<- HNV.out];exact (Sl.of_own (X:=No) HY3.out (fun _ _ f=>f)).kn hm))
     have HHM:=zh (show (ys.any fun y=>decide (y.n.name=n.name))=decide (n.name ∈ x.r.needs.map Nd.name) by
      rw [<- HY1.out,List.map_map]
      by_cases h:∃ y ∈ ys,y.n.name=n.name
      ·rw [decide_eq_true (by obtain ⟨y,hy,e⟩:=h;exact List.mem_map.2 ⟨y,hy,e⟩)]
       obtain ⟨y,hy,e⟩:=h
       exact List.any_eq_true.2 ⟨y,hy,by simpa using e⟩
      ·rw [decide_eq_false (fun hm=>by obtain ⟨y,hy,e⟩:=List.mem_map.1 hm;exact h ⟨y,hy,e⟩)]
       exact List.any_eq_false.2 (fun y hy e=>h ⟨y,hy,by simpa using e⟩))
     have hT1:=str_list n.name
     unfold strV at *
     obtain ⟨an,han⟩:∃ b,b=n.span.any:=⟨_,rfl⟩
     obtain ⟨NM,hNM⟩:∃ b:ByteArray,b=⟨n.name.toArray⟩:=⟨_,rfl⟩
     obtain ⟨TX,hTX⟩:∃ b:ByteArray,b=⟨n.text.toArray⟩:=⟨_,rfl⟩
     rw [<- han,<- hNM,<- hTX]
     rw [<- hNM] at hT1 HHAS
     have HNC:=zh (show NdX.cells ⟨n,.slice oa om oc⟩=[.string NM,.bool an,.slice oa om oc,.string TX] by rw [han,hNM,hTX];rfl)
     clear hor han hNM hTX
     by_cases hsame:n.name=x.r.name
     ·have HFAIL:=zh (show ∀ w',LineRes B w' ((zs++[x]).map RwX.r) s (.returned (.tuple #[.slice (some ⟨g,0,none⟩) rn rc,.bool false])) from fun w'=>⟨_,false,rfl,by rw [HLQ.out,hnl];simp [hsame]⟩)
      have he:(NM.toList == LN.toList)=true:=by rw [hT1,hLL,hsame];simp
      clear HLQ hnl hsame hT1 hLL HHAS HHM
      go_upto_region 11 with fail
      obtain ⟨nb,hnb⟩:∃ g,g=w3.heap.size:=⟨_,rfl⟩
      rw [<- hnb]
      generalize hw4:World.alloc w3 _=w4
      obtain ⟨wA,hwA⟩:∃ z,z=w4.drew:=⟨_,rfl⟩
      have hm3A:Mod No w3 wA:=by rw [hwA,<- hw4];exact ((Mod.refl No w3).alloc _).drew
      have HM3A:=zh hm3A
      have HNB:=zh (show wA.heap[nb]? = some (.cells #[.string NM,.bool an,.slice oa om oc,.string TX] 81 (0,0)) by rw [hwA,<- hw4,hnb];exact heap_alloc_new w3 _)
      have HCN:=zh (hm3A.cell hcn (fun f=>f))
      have HCV:=zh (hm3A.cell hcv (fun f=>f))
      have HSB:=zh (show ∀ w',Mod No wA w'->w'.cell? ⟨nb,0,none⟩=some (.string NM)/\w'.cell? ⟨g,k*39,none⟩=some (.string LN)/\w'.cell? ⟨g,k*39+38,none⟩=some (.slice na m nc) from fun w' h =>
       ⟨cell_ofA (h.keep HNB.out (fun f=>f)) rfl,h.cell HCN.out (fun f=>f),h.cell HCV.out (fun f=>f)⟩)
      have hS0:=HSB.out wA (Mod.refl _ _)
      have HWA:=zh hwA
      have HMz:=zh ((HM3.out.trans hm3A).no (S:=fun k=>B<=k))
      have HNQ:=zh hnb
      clear hwA hw4 hm3A hcn hcv hnb
      refine wp_region_T (fun w'=>w'.cell? ⟨nb,0,none⟩=some (.string NM)/\w'.cell? ⟨g,k*39,none⟩=some (.string LN)/\w'.cell? ⟨g,k*39+38,none⟩=some (.slice na m nc)) 99 (by kernel_rfl) ?_
      rw [<- HWA.out]
      clear HWA
      refine yT 0 (some 68) ?_ hS0 ?_ ?_
      rotate_left
      ·(intro w' hSw;obtain ⟨q0,q1,q2⟩:=hSw;go_simp;try with_reducible rfl)
      simp only [Act.put,yB,yC,yD]
      refine yT 1 (some 69) ?_ hS0 ?_ ?_
      rotate_left
      ·(intro w' hSw;obtain ⟨q0,q1,q2⟩:=hSw;go_simp;try with_reducible rfl)
      simp only [Act.put,yB,yC,yD]
      refine yT 2 (some 70) ?_ hS0 ?_ ?_
      rotate_left
      ·(intro w' hSw;obtain ⟨q0,q1,q2⟩:=hSw;go_simp;try with_reducible rfl)
      simp only [Act.put,yB,yC,yD]
      refine yT 3 (some 71) ?_ hS0 ?_ ?_
      rotate_left
      ·(intro w' hSw;obtain ⟨q0,q1,q2⟩:=hSw;go_simp;try with_reducible rfl)
      simp only [Act.put,yB,yC,yD]
      refine yT 4 (some 72) ?_ hS0 ?_ ?_
      rotate_left
      ·(intro w' hSw;obtain ⟨q0,q1,q2⟩:=hSw;go_simp;try with_reducible rfl)
      simp only [Act.put,yB,yC,yD]
      refine yT 5 (some 73) ?_ hS0 ?_ ?_
      rotate_left
      ·(intro w' hSw;obtain ⟨q0,q1,q2⟩:=hSw;go_simp;try with_reducible rfl)
      simp only [Act.put,yB,yC,yD]
      refine yT 6 (some 74) ?_ hS0 ?_ ?_
      rotate_left
      ·(intro w' hSw;obtain ⟨q0,q1,q2⟩:=hSw;go_simp;try with_reducible rfl)
      simp only [Act.put,yB,yC,yD]
      refine yT 7 (some 75) ?_ hS0 ?_ ?_
      rotate_left
      ·(intro w' hSw;obtain ⟨q0,q1,q2⟩:=hSw;go_simp;try with_reducible rfl)
      simp only [Act.put,yB,yC,yD]
      refine yT 8 (some 76) ?_ hS0 ?_ ?_
      rotate_left
      ·(intro w' hSw;obtain ⟨q0,q1,q2⟩:=hSw;go_simp;try with_reducible rfl)
      simp only [Act.put,yB,yC,yD]
      refine yT 9 (some 77) ?_ hS0 ?_ ?_
      rotate_left
      ·(intro w' hSw;obtain ⟨q0,q1,q2⟩:=hSw;go_simp;try with_reducible rfl)
      simp only [Act.put,yB,yC,yD]
      refine yT 10 (some 78) ?_ hS0 ?_ ?_
      rotate_left
      ·(intro w' hSw;obtain ⟨q0,q1,q2⟩:=hSw;go_simp;try with_reducible rfl)
      simp only [Act.put,yB,yC,yD]
      refine yT 11 (some 79) ?_ hS0 ?_ ?_
      rotate_left
      ·(intro w' hSw;obtain ⟨q0,q1,q2⟩:=hSw;go_simp;try with_reducible rfl)
      simp only [Act.put,yB,yC,yD]
      refine wpAnyT_takeV 12 (some 80) undef rfl rfl (by kernel_rfl) (fun _ _ _ h=>h) hS0 (Or.inr ⟨by rfl,rfl⟩) ?_
      simp only [Act.put,yB,yC,yD]
      refine wpAnyT_takeV 13 (some 81) undef rfl rfl (by kernel_rfl) (fun _ _ _ h=>h) hS0 (Or.inr ⟨by rfl,rfl⟩) ?_
      simp only [Act.put,yB,yC,yD]
      refine wpAnyT_takeV 14 (some 82) undef rfl rfl (by kernel_rfl) (fun _ _ _ h=>h) hS0 (Or.inr ⟨by rfl,rfl⟩) ?_
      simp only [Act.put,yB,yC,yD]
      refine wpAnyT_takeV 15 (some 83) undef rfl rfl (by kernel_rfl) (fun _ _ _ h=>h) hS0 (Or.inr ⟨by rfl,rfl⟩) ?_
      simp only [Act.put,yB,yC,yD]
      refine wpAnyT_takeV 16 (some 84) undef rfl rfl (by kernel_rfl) (fun _ _ _ h=>h) hS0 (Or.inr ⟨by rfl,rfl⟩) ?_
      simp only [Act.put,yB,yC,yD]
      refine wpAnyT_takeV 17 (some 85) undef rfl rfl (by kernel_rfl) (fun _ _ _ h=>h) hS0 (Or.inr ⟨by rfl,rfl⟩) ?_
      simp only [Act.put,yB,yC,yD]
      refine wpAnyT_takeV 18 (some 86) undef rfl rfl (by kernel_rfl) (fun _ _ _ h=>h) hS0 (Or.inr ⟨by rfl,rfl⟩) ?_
      simp only [Act.put,yB,yC,yD]
      refine yT 19 (some 87) ?_ hS0 ?_ ?_
      rotate_left
      ·(intro w' hSw;obtain ⟨q0,q1,q2⟩:=hSw;go_simp;try with_reducible rfl)
      simp only [Act.put,yB,yC,yD]
      refine yT 20 (some 88) ?_ hS0 ?_ ?_
      rotate_left
      ·(intro w' hSw;obtain ⟨q0,q1,q2⟩:=hSw;go_simp;try with_reducible rfl)
      simp only [Act.put,yB,yC,yD]
      refine wpAnyT_takeV 21 (some 89) undef rfl rfl (by kernel_rfl) (fun _ _ _ h=>h) hS0 (Or.inr ⟨by rfl,rfl⟩) ?_
      simp only [Act.put,yB,yC,yD]
      refine wpAnyT_takeV 22 (some 90) undef rfl rfl (by kernel_rfl) (fun _ _ _ h=>h) hS0 (Or.inr ⟨by rfl,rfl⟩) ?_
      simp only [Act.put,yB,yC,yD]
      refine wpAnyT_takeV 23 (some 91) undef rfl rfl (by kernel_rfl) (fun _ _ _ h=>h) hS0 (Or.inr ⟨by rfl,rfl⟩) ?_
      simp only [Act.put,yB,yC,yD]
      refine wpAnyT_takeV 24 (some 92) undef rfl rfl (by kernel_rfl) (fun _ _ _ h=>h) hS0 (Or.inr ⟨by rfl,rfl⟩) ?_
      simp only [Act.put,yB,yC,yD]
      refine wpAnyT_takeV 25 (some 93) undef rfl rfl (by kernel_rfl) (fun _ _ _ h=>h) hS0 (Or.inr ⟨by rfl,rfl⟩) ?_
      simp only [Act.put,yB,yC,yD]
      refine wpAnyT_takeV 26 (some 94) undef rfl rfl (by kernel_rfl) (fun _ _ _ h=>h) hS0 (Or.inr ⟨by rfl,rfl⟩) ?_
      simp only [Act.put,yB,yC,yD]
      refine yT 27 (some 95) ?_ hS0 ?_ ?_
      rotate_left
      ·(intro w' hSw;obtain ⟨q0,q1,q2⟩:=hSw;go_simp;try with_reducible rfl)
      simp only [Act.put]
      refine wpAnyT_done (by kernel_rfl) ?_ _
      go_wp2_with fail
      exact fin hR ⟨HFAIL.out _,HMz.out⟩
     ·have he:(NM.toList == LN.toList)=false:=by rw [hT1,hLL];simpa using hsame
      by_cases hmem:n.name ∈ x.r.needs.map Nd.name
      ·have HFAIL:=zh (show ∀ w',LineRes B w' ((zs++[x]).map RwX.r) s (.returned (.tuple #[.slice (some ⟨g,0,none⟩) rn rc,.bool false])) from fun w'=>⟨_,false,rfl,show lineP ((zs++[x]).map RwX.r) s=none by rw [HLQ.out,hnl];simp only [Option.bind_some];rw [if_pos (.inr (.inl hmem))]⟩)
       have HHV:=zh (show (ys.any fun y=>decide (y.n.name=n.name))=true by rw [HHM.out];exact decide_eq_true hmem)
       clear HLQ hnl hsame hT1 hLL HHM hmem
       go_upto_region 11 with fail
       obtain ⟨nb,hnb⟩:∃ g,g=w3.heap.size:=⟨_,rfl⟩
       rw [<- hnb]
       generalize hw4:World.alloc w3 _=w4
       obtain ⟨wA,hwA⟩:∃ z,z=w4.drew:=⟨_,rfl⟩
       have hm3A:Mod No w3 wA:=by rw [hwA,<- hw4];exact ((Mod.refl No w3).alloc _).drew
       have HM3A:=zh hm3A
       have HNB:=zh (show wA.heap[nb]? = some (.cells #[.string NM,.bool an,.slice oa om oc,.string TX] 81 (0,0)) by rw [hwA,<- hw4,hnb];exact heap_alloc_new w3 _)
       have HCN:=zh (hm3A.cell hcn (fun f=>f))
       have HCV:=zh (hm3A.cell hcv (fun f=>f))
       have HSB:=zh (show ∀ w',Mod No wA w'->w'.cell? ⟨nb,0,none⟩=some (.string NM)/\w'.cell? ⟨g,k*39,none⟩=some (.string LN)/\w'.cell? ⟨g,k*39+38,none⟩=some (.slice na m nc) from fun w' h =>
        ⟨cell_ofA (h.keep HNB.out (fun f=>f)) rfl,h.cell HCN.out (fun f=>f),h.cell HCV.out (fun f=>f)⟩)
       have hS0:=HSB.out wA (Mod.refl _ _)
       have HWA:=zh hwA
       have HMz:=zh ((HM3.out.trans hm3A).no (S:=fun k=>B<=k))
       have HNQ:=zh hnb
       clear hwA hw4 hm3A hcn hcv hnb
       refine wp_region_T (fun w'=>w'.cell? ⟨nb,0,none⟩=some (.string NM)/\w'.cell? ⟨g,k*39,none⟩=some (.string LN)/\w'.cell? ⟨g,k*39+38,none⟩=some (.slice na m nc)) 99 (by kernel_rfl) ?_
       rw [<- HWA.out]
       clear HWA
       refine yT 0 (some 68) ?_ hS0 ?_ ?_
       rotate_left
       ·(intro w' hSw;obtain ⟨q0,q1,q2⟩:=hSw;go_simp;try with_reducible rfl)
       simp only [Act.put,yB,yC,yD]
       refine yT 1 (some 69) ?_ hS0 ?_ ?_
       rotate_left
       ·(intro w' hSw;obtain ⟨q0,q1,q2⟩:=hSw;go_simp;try with_reducible rfl)
       simp only [Act.put,yB,yC,yD]
       refine yT 2 (some 70) ?_ hS0 ?_ ?_
       rotate_left
       ·(intro w' hSw;obtain ⟨q0,q1,q2⟩:=hSw;go_simp;try with_reducible rfl)
       simp only [Act.put,yB,yC,yD]
       refine yT 3 (some 71) ?_ hS0 ?_ ?_
       rotate_left
       ·(intro w' hSw;obtain ⟨q0,q1,q2⟩:=hSw;go_simp;try with_reducible rfl)
       simp only [Act.put,yB,yC,yD]
       refine yT 4 (some 72) ?_ hS0 ?_ ?_
       rotate_left
       ·(intro w' hSw;obtain ⟨q0,q1,q2⟩:=hSw;go_simp;try with_reducible rfl)
       simp only [Act.put,yB,yC,yD]
       refine yT 5 (some 73) ?_ hS0 ?_ ?_
       rotate_left
       ·(intro w' hSw;obtain ⟨q0,q1,q2⟩:=hSw;go_simp;try with_reducible rfl)
       simp only [Act.put,yB,yC,yD]
       refine yT 6 (some 74) ?_ hS0 ?_ ?_
       rotate_left
       ·(intro w' hSw;obtain ⟨q0,q1,q2⟩:=hSw;go_simp;try with_reducible rfl)
       simp only [Act.put,yB,yC,yD]
       refine yT 7 (some 75) ?_ hS0 ?_ ?_
       rotate_left
       ·(intro w' hSw;obtain ⟨q0,q1,q2⟩:=hSw;go_simp;try with_reducible rfl)
       simp only [Act.put,yB,yC,yD]
       refine yT 8 (some 76) ?_ hS0 ?_ ?_
       rotate_left
       ·(intro w' hSw;obtain ⟨q0,q1,q2⟩:=hSw;go_simp;try with_reducible rfl)
       simp only [Act.put,yB,yC,yD]
       refine yT 9 (some 77) ?_ hS0 ?_ ?_
       rotate_left
       ·(intro w' hSw;obtain ⟨q0,q1,q2⟩:=hSw;go_simp;try with_reducible rfl)
       simp only [Act.put,yB,yC,yD]
       refine yT 10 (some 78) ?_ hS0 ?_ ?_
       rotate_left
       ·(intro w' hSw;obtain ⟨q0,q1,q2⟩:=hSw;go_simp;try with_reducible rfl)
       simp only [Act.put,yB,yC,yD]
       refine yT 11 (some 79) ?_ hS0 ?_ ?_
       rotate_left
       ·(intro w' hSw;obtain ⟨q0,q1,q2⟩:=hSw;go_simp;try with_reducible rfl)
       simp only [Act.put,yB,yC,yD]
       refine yT 12 (some 80) ?_ hS0 ?_ ?_
       rotate_left
       ·(intro w' hSw;obtain ⟨q0,q1,q2⟩:=hSw;go_simp;try with_reducible rfl)
       simp only [Act.put,yB,yC,yD]
       refine yT 13 (some 81) ?_ hS0 ?_ ?_
       rotate_left
       ·(intro w' hSw;obtain ⟨q0,q1,q2⟩:=hSw;go_simp;try with_reducible rfl)
       simp only [Act.put,yB,yC,yD]
       refine yT 14 (some 82) ?_ hS0 ?_ ?_
       rotate_left
       ·(intro w' hSw;obtain ⟨q0,q1,q2⟩:=hSw;go_simp;try with_reducible rfl)
       simp only [Act.put,yB,yC,yD]
       refine yT 15 (some 83) ?_ hS0 ?_ ?_
       rotate_left
       ·(intro w' hSw;obtain ⟨q0,q1,q2⟩:=hSw;go_simp;try with_reducible rfl)
       simp only [Act.put,yB,yC,yD]
       refine yT 16 (some 84) ?_ hS0 ?_ ?_
       rotate_left
       ·(intro w' hSw;obtain ⟨q0,q1,q2⟩:=hSw;go_simp;try with_reducible rfl)
       simp only [Act.put,yB,yC,yD]
       refine yT 17 (some 85) ?_ hS0 ?_ ?_
       rotate_left
       ·(intro w' hSw;obtain ⟨q0,q1,q2⟩:=hSw;go_simp;try with_reducible rfl)
       simp only [Act.put,yB,yC,yD]
       refine wpAnyT_oneW 18 rfl (by kernel_rfl) (by rfl) ?_
       intro K hK
       go_simp
       go_at_call 83
       with_reducible refine (HHAS.out _ HM3A.out).mono ?_
       rintro e wB ⟨rfl,hB⟩
       have HB:=zh hB
       have HMB:=zh (HM3A.out.trans hB)
       rw [HHV.out]
       clear hB
       show K _ _
       have hS1:=HSB.out wB HB.out
       refine hK.out _ _ (fun _=>hS1) ?_
       clear hK K
       refine yT 19 (some 87) ?_ hS1 ?_ ?_
       rotate_left
       ·(intro w' hSw;obtain ⟨q0,q1,q2⟩:=hSw;go_simp;try with_reducible rfl)
       simp only [Act.put,yB,yC,yD]
       refine yT 20 (some 88) ?_ hS1 ?_ ?_
       rotate_left
       ·(intro w' hSw;obtain ⟨q0,q1,q2⟩:=hSw;go_simp;try with_reducible rfl)
       simp only [Act.put,yB,yC,yD]
       refine wpAnyT_takeV 21 (some 89) undef rfl rfl (by kernel_rfl) (fun _ _ _ h=>h) hS1 (Or.inr ⟨by rfl,rfl⟩) ?_
       simp only [Act.put,yB,yC,yD]
       refine wpAnyT_takeV 22 (some 90) undef rfl rfl (by kernel_rfl) (fun _ _ _ h=>h) hS1 (Or.inr ⟨by rfl,rfl⟩) ?_
       simp only [Act.put,yB,yC,yD]
       refine wpAnyT_takeV 23 (some 91) undef rfl rfl (by kernel_rfl) (fun _ _ _ h=>h) hS1 (Or.inr ⟨by rfl,rfl⟩) ?_
       simp only [Act.put,yB,yC,yD]
       refine wpAnyT_takeV 24 (some 92) undef rfl rfl (by kernel_rfl) (fun _ _ _ h=>h) hS1 (Or.inr ⟨by rfl,rfl⟩) ?_
       simp only [Act.put,yB,yC,yD]
       refine wpAnyT_takeV 25 (some 93) undef rfl rfl (by kernel_rfl) (fun _ _ _ h=>h) hS1 (Or.inr ⟨by rfl,rfl⟩) ?_
       simp only [Act.put,yB,yC,yD]
       refine wpAnyT_takeV 26 (some 94) undef rfl rfl (by kernel_rfl) (fun _ _ _ h=>h) hS1 (Or.inr ⟨by rfl,rfl⟩) ?_
       simp only [Act.put,yB,yC,yD]
       refine yT 27 (some 95) ?_ hS1 ?_ ?_
       rotate_left
       ·(intro w' hSw;obtain ⟨q0,q1,q2⟩:=hSw;go_simp;try with_reducible rfl)
       simp only [Act.put]
       refine wpAnyT_done (by kernel_rfl) ?_ _
       have HMz:=zh ((HM3.out.trans HMB.out).no (S:=fun k=>B<=k))
       go_wp2_with fail
       exact fin hR ⟨HFAIL.out _,HMz.out⟩
      ·have HFAIL:=zh (show m=20->∀ w',LineRes B w' ((zs++[x]).map RwX.r) s (.returned (.tuple #[.slice (some ⟨g,0,none⟩) rn rc,.bool false])) from fun h20 w'=>⟨_,false,rfl,show lineP ((zs++[x]).map RwX.r) s=none by rw [HLQ.out,hnl];simp only [Option.bind_some];rw [if_pos (.inr (.inr h20))]⟩)
       have HGOOD:=zh (show m ≠ 20->lineP ((zs++[x]).map RwX.r) s=some (zs.map RwX.r++[{ x.r with needs:=x.r.needs++[n] }]) from fun h20=>by rw [HLQ.out,hnl];simp only [Option.bind_some];rw [if_neg (fun h=>h.elim hsame (fun h=>h.elim hmem h20))])
       have HHV:=zh (show (ys.any fun y=>decide (y.n.name=n.name))=false by rw [HHM.out];exact decide_eq_false hmem)
       clear HLQ hnl hsame hT1 hLL HHM hmem
       go_upto_region 11 with fail
       obtain ⟨nb,hnb⟩:∃ g,g=w3.heap.size:=⟨_,rfl⟩
       rw [<- hnb]
       generalize hw4:World.alloc w3 _=w4
       obtain ⟨wA,hwA⟩:∃ z,z=w4.drew:=⟨_,rfl⟩
       have hm3A:Mod No w3 wA:=by rw [hwA,<- hw4];exact ((Mod.refl No w3).alloc _).drew
       have HM3A:=zh hm3A
       have HNB:=zh (show wA.heap[nb]? = some (.cells #[.string NM,.bool an,.slice oa om oc,.string TX] 81 (0,0)) by rw [hwA,<- hw4,hnb];exact heap_alloc_new w3 _)
       have HCN:=zh (hm3A.cell hcn (fun f=>f))
       have HCV:=zh (hm3A.cell hcv (fun f=>f))
       have HSB:=zh (show ∀ w',Mod No wA w'->w'.cell? ⟨nb,0,none⟩=some (.string NM)/\w'.cell? ⟨g,k*39,none⟩=some (.string LN)/\w'.cell? ⟨g,k*39+38,none⟩=some (.slice na m nc) from fun w' h =>
        ⟨cell_ofA (h.keep HNB.out (fun f=>f)) rfl,h.cell HCN.out (fun f=>f),h.cell HCV.out (fun f=>f)⟩)
       have hS0:=HSB.out wA (Mod.refl _ _)
       have HWA:=zh hwA
       have HMz:=zh ((HM3.out.trans hm3A).no (S:=fun k=>B<=k))
       have HNQ:=zh hnb
       clear hwA hw4 hm3A hcn hcv hnb
       refine wp_region_T (fun w'=>w'.cell? ⟨nb,0,none⟩=some (.string NM)/\w'.cell? ⟨g,k*39,none⟩=some (.string LN)/\w'.cell? ⟨g,k*39+38,none⟩=some (.slice na m nc)) 99 (by kernel_rfl) ?_
       rw [<- HWA.out]
       clear HWA
       refine yT 0 (some 68) ?_ hS0 ?_ ?_
       rotate_left
       ·(intro w' hSw;obtain ⟨q0,q1,q2⟩:=hSw;go_simp;try with_reducible rfl)
       simp only [Act.put,yB,yC,yD]
       refine yT 1 (some 69) ?_ hS0 ?_ ?_
       rotate_left
       ·(intro w' hSw;obtain ⟨q0,q1,q2⟩:=hSw;go_simp;try with_reducible rfl)
       simp only [Act.put,yB,yC,yD]
       refine yT 2 (some 70) ?_ hS0 ?_ ?_
       rotate_left
       ·(intro w' hSw;obtain ⟨q0,q1,q2⟩:=hSw;go_simp;try with_reducible rfl)
       simp only [Act.put,yB,yC,yD]
       refine yT 3 (some 71) ?_ hS0 ?_ ?_
       rotate_left
       ·(intro w' hSw;obtain ⟨q0,q1,q2⟩:=hSw;go_simp;try with_reducible rfl)
       simp only [Act.put,yB,yC,yD]
       refine yT 4 (some 72) ?_ hS0 ?_ ?_
       rotate_left
       ·(intro w' hSw;obtain ⟨q0,q1,q2⟩:=hSw;go_simp;try with_reducible rfl)
       simp only [Act.put,yB,yC,yD]
       refine yT 5 (some 73) ?_ hS0 ?_ ?_
       rotate_left
       ·(intro w' hSw;obtain ⟨q0,q1,q2⟩:=hSw;go_simp;try with_reducible rfl)
       simp only [Act.put,yB,yC,yD]
       refine yT 6 (some 74) ?_ hS0 ?_ ?_
       rotate_left
       ·(intro w' hSw;obtain ⟨q0,q1,q2⟩:=hSw;go_simp;try with_reducible rfl)
       simp only [Act.put,yB,yC,yD]
       refine yT 7 (some 75) ?_ hS0 ?_ ?_
       rotate_left
       ·(intro w' hSw;obtain ⟨q0,q1,q2⟩:=hSw;go_simp;try with_reducible rfl)
       simp only [Act.put,yB,yC,yD]
       refine yT 8 (some 76) ?_ hS0 ?_ ?_
       rotate_left
       ·(intro w' hSw;obtain ⟨q0,q1,q2⟩:=hSw;go_simp;try with_reducible rfl)
       simp only [Act.put,yB,yC,yD]
       refine yT 9 (some 77) ?_ hS0 ?_ ?_
       rotate_left
       ·(intro w' hSw;obtain ⟨q0,q1,q2⟩:=hSw;go_simp;try with_reducible rfl)
       simp only [Act.put,yB,yC,yD]
       refine yT 10 (some 78) ?_ hS0 ?_ ?_
       rotate_left
       ·(intro w' hSw;obtain ⟨q0,q1,q2⟩:=hSw;go_simp;try with_reducible rfl)
       simp only [Act.put,yB,yC,yD]
       refine yT 11 (some 79) ?_ hS0 ?_ ?_
       rotate_left
       ·(intro w' hSw;obtain ⟨q0,q1,q2⟩:=hSw;go_simp;try with_reducible rfl)
       simp only [Act.put,yB,yC,yD]
       refine yT 12 (some 80) ?_ hS0 ?_ ?_
       rotate_left
       ·(intro w' hSw;obtain ⟨q0,q1,q2⟩:=hSw;go_simp;try with_reducible rfl)
       simp only [Act.put,yB,yC,yD]
       refine yT 13 (some 81) ?_ hS0 ?_ ?_
       rotate_left
       ·(intro w' hSw;obtain ⟨q0,q1,q2⟩:=hSw;go_simp;try with_reducible rfl)
       simp only [Act.put,yB,yC,yD]
       refine yT 14 (some 82) ?_ hS0 ?_ ?_
       rotate_left
       ·(intro w' hSw;obtain ⟨q0,q1,q2⟩:=hSw;go_simp;try with_reducible rfl)
       simp only [Act.put,yB,yC,yD]
       refine yT 15 (some 83) ?_ hS0 ?_ ?_
       rotate_left
       ·(intro w' hSw;obtain ⟨q0,q1,q2⟩:=hSw;go_simp;try with_reducible rfl)
       simp only [Act.put,yB,yC,yD]
       refine yT 16 (some 84) ?_ hS0 ?_ ?_
       rotate_left
       ·(intro w' hSw;obtain ⟨q0,q1,q2⟩:=hSw;go_simp;try with_reducible rfl)
       simp only [Act.put,yB,yC,yD]
       refine yT 17 (some 85) ?_ hS0 ?_ ?_
       rotate_left
       ·(intro w' hSw;obtain ⟨q0,q1,q2⟩:=hSw;go_simp;try with_reducible rfl)
       simp only [Act.put,yB,yC,yD]
       refine wpAnyT_oneW 18 rfl (by kernel_rfl) (by rfl) ?_
       intro K hK
       go_simp
       go_at_call 83
       with_reducible refine (HHAS.out _ HM3A.out).mono ?_
       rintro e wB ⟨rfl,hB⟩
       have HB:=zh hB
       have HMB:=zh (HM3A.out.trans hB)
       rw [HHV.out]
       clear hB
       show K _ _
       have hS1:=HSB.out wB HB.out
       refine hK.out _ _ (fun _=>hS1) ?_
       clear hK K
       refine yT 19 (some 87) ?_ hS1 ?_ ?_
       rotate_left
       ·(intro w' hSw;obtain ⟨q0,q1,q2⟩:=hSw;go_simp;try with_reducible rfl)
       simp only [Act.put,yB,yC,yD]
       refine yT 20 (some 88) ?_ hS1 ?_ ?_
       rotate_left
       ·(intro w' hSw;obtain ⟨q0,q1,q2⟩:=hSw;go_simp;try with_reducible rfl)
       simp only [Act.put,yB,yC,yD]
       refine yT 21 (some 89) ?_ hS1 ?_ ?_
       rotate_left
       ·(intro w' hSw;obtain ⟨q0,q1,q2⟩:=hSw;go_simp;try with_reducible rfl)
       simp only [Act.put,yB,yC,yD]
       refine yT 22 (some 90) ?_ hS1 ?_ ?_
       rotate_left
       ·(intro w' hSw;obtain ⟨q0,q1,q2⟩:=hSw;go_simp;try with_reducible rfl)
       simp only [Act.put,yB,yC,yD]
       refine yT 23 (some 91) ?_ hS1 ?_ ?_
       rotate_left
       ·(intro w' hSw;obtain ⟨q0,q1,q2⟩:=hSw;go_simp;try with_reducible rfl)
       simp only [Act.put,yB,yC,yD]
       refine yT 24 (some 92) ?_ hS1 ?_ ?_
       rotate_left
       ·(intro w' hSw;obtain ⟨q0,q1,q2⟩:=hSw;go_simp;try with_reducible rfl)
       simp only [Act.put,yB,yC,yD]
       refine yT 25 (some 93) ?_ hS1 ?_ ?_
       rotate_left
       ·(intro w' hSw;obtain ⟨q0,q1,q2⟩:=hSw;go_simp;try with_reducible rfl)
       simp only [Act.put,yB,yC,yD]
       refine yT 26 (some 94) ?_ hS1 ?_ ?_
       rotate_left
       ·(intro w' hSw;obtain ⟨q0,q1,q2⟩:=hSw;go_simp;try with_reducible rfl)
       simp only [Act.put,yB,yC,yD]
       refine yT 27 (some 95) ?_ hS1 ?_ ?_
       rotate_left
       ·(intro w' hSw;obtain ⟨q0,q1,q2⟩:=hSw;go_simp;try with_reducible rfl)
       simp only [Act.put]
       refine wpAnyT_done (by kernel_rfl) ?_ _
       have HMz:=zh ((HM3.out.trans HMB.out).no (S:=fun k=>B<=k))
       by_cases h20:m=20
       ·have h21:((m:Int) == 20)=true:=by simp;omega
        go_wp2_with fail
        exact fin hR ⟨HFAIL.out h20 _,HMz.out⟩
       ·have h21:((m:Int) == 20)=false:=by simp;omega
        go_upto_region 12 with fail
        obtain ⟨wD,hwD⟩:∃ z,z=wB.drew:=⟨_,rfl⟩
        have hmBD:Mod No wB wD:=by rw [hwD];exact (Mod.refl No wB).drew
        have HM3D:=zh (HMB.out.trans hmBD)
        have HNBD:=zh (hmBD.keep (HB.out.keep HNB.out (fun f=>f)) (fun f=>f))
        have HCVD:=zh (hmBD.cell (HB.out.cell HCV.out (fun f=>f)) (fun f=>f))
        have HYO:=zh (show wD.ownsRow B 81 4 (.slice na m nc) m (ys.flatMap NdX.cells) by rw [<- HNV.out];exact own_keepM HY3.out HM3D.out (fun _ _ f=>f))
        have HLT:=zh (show ∀ q,(Value.slice na m nc).ownBlock=some q->q < nb/\q ≠ g from fun q hq=>by
         rw [<- HNV.out] at hq
         obtain ⟨cur,hc⟩:=own_heapM HY3.out hq
         refine ⟨by have:=lt_of_heap hc;have:=HNQ.out;omega,fun e=>HR3.out.apart (by simp) hq (by rw [e];rfl)⟩)
        have HS2:=zh (show ∀ w',Mod No wD w'->w'.heap[nb]? = some (.cells #[.string NM,.bool an,.slice oa om oc,.string TX] 81 (0,0))/\w'.cell? ⟨g,k*39+38,none⟩=some (.slice na m nc) from fun w' h=>⟨h.keep HNBD.out (fun f=>f),h.cell HCVD.out (fun f=>f)⟩)
        have HGM:=zh (show ∀ w7,World.grownBy (wD.alloc (.cells #[.string NM,.bool an,.slice oa om oc,.string TX] 81)) w7 (Value.slice na m nc).ownBlock->Mod (fun q=>(Value.slice na m nc).ownBlock=some q) wD w7 from fun w7 h=>((Mod.refl No wD).alloc _).no.trans (Mod.of_grown h (fun q hq _=>hq)))
        have HS3:=zh (show ∀ w7,World.grownBy (wD.alloc (.cells #[.string NM,.bool an,.slice oa om oc,.string TX] 81)) w7 (Value.slice na m nc).ownBlock->w7.heap[nb]? = some (.cells #[.string NM,.bool an,.slice oa om oc,.string TX] 81 (0,0))/\w7.cell? ⟨g,k*39+38,none⟩=some (.slice na m nc) from fun w7 h =>
         ⟨(HGM.out w7 h).keep HNBD.out (fun e=>by have:=(HLT.out _ e).1;omega),(HGM.out w7 h).cell HCVD.out (fun e=>(HLT.out _ e).2 rfl)⟩)
        have HFZ:=zh (show ∀ w7,World.grownBy (wD.alloc (.cells #[.string NM,.bool an,.slice oa om oc,.string TX] 81)) w7 (Value.slice na m nc).ownBlock->w7.frozen? ⟨g,k*39+38,none⟩=false from fun w7 h=>by
         obtain ⟨cur,hc⟩:=HGH.out
         exact frozen_of _ ((HGM.out w7 h).keep (HM3D.out.keep hc (fun f=>f)) (fun e=>(HLT.out _ e).2 rfl)))
        obtain ⟨i1,hi0,hz0,hz1,hz2⟩:=info_parts info_need
        have hbD:B<=wD.heap.size:=by
         have h1:=HM3D.out.size
         have h2:=HM3.out.size
         omega
        have hm19:m<=19:=by omega
        have hS0:=HS2.out wD (Mod.refl _ _)
        have HWD:=zh hwD
        clear hwD hmBD hS1
        refine wp_region_T (fun w'=>w'.heap[nb]? = some (.cells #[.string NM,.bool an,.slice oa om oc,.string TX] 81 (0,0))/\w'.cell? ⟨g,k*39+38,none⟩=some (.slice na m nc)) 10 (by kernel_rfl) ?_
        rw [<- HWD.out]
        clear HWD
        refine wpAnyT_take 0 (some 96) ?_ rfl rfl (by kernel_rfl) (fun _ _ _ h=>h) hS0 (Or.inl ⟨by rfl,?_⟩) ?_
        rotate_left
        ·(intro w' hSw;obtain ⟨q0,q1⟩:=hSw;go_simp;try with_reducible rfl)
        simp only [Act.put,yB,yC,yD]
        refine wpAnyT_take 1 (some 97) ?_ rfl rfl (by kernel_rfl) (fun _ _ _ h=>h) hS0 (Or.inl ⟨by rfl,?_⟩) ?_
        rotate_left
        ·(intro w' hSw;obtain ⟨q0,q1⟩:=hSw;go_simp;try with_reducible rfl)
        simp only [Act.put,yB,yC,yD]
        refine wpAnyT_take 2 (some 98) ?_ rfl rfl (by kernel_rfl) (fun _ _ _ h=>h) hS0 (Or.inl ⟨by rfl,?_⟩) ?_
        rotate_left
        ·(intro w' hSw;obtain ⟨q0,q1⟩:=hSw;go_simp;try with_reducible rfl)
        simp only [Act.put,yB,yC,yD]
        refine wpAnyT_take 3 (some 99) ?_ rfl rfl (by kernel_rfl) (fun _ _ _ h=>h) hS0 (Or.inl ⟨by rfl,?_⟩) ?_
        rotate_left
        ·(intro w' hSw;obtain ⟨q0,q1⟩:=hSw;go_simp;try with_reducible rfl)
        simp only [Act.put,yB,yC,yD]
        refine wpAnyT_take 4 (some 100) ?_ rfl rfl (by kernel_rfl) (fun _ _ _ h=>h) hS0 (Or.inl ⟨by rfl,?_⟩) ?_
        rotate_left
        ·(intro w' hSw;obtain ⟨q0,q1⟩:=hSw;go_simp;try with_reducible rfl)
        simp only [Act.put,yB,yC,yD]
        refine wpAnyT_take 5 (some 101) (.agg #[.string NM,.bool an,.slice oa om oc,.string TX]) rfl rfl (by kernel_rfl) (fun _ _ _ h=>h) hS0 (Or.inl ⟨by rfl,?_⟩) ?_
        ·(intro w' hSw;obtain ⟨q0,q1⟩:=hSw;exact yload (load_need q0) (.tmp 14) rfl rfl)
        simp only [Act.put,yB,yC,yD]
        refine wpAnyT_one 6 rfl (by kernel_rfl) rfl ?_
        intro K hK
        go_simp
        show K _ _
        have hS1:=HS2.out (wD.alloc (.cells #[.string NM,.bool an,.slice oa om oc,.string TX] 81)) ((Mod.refl No wD).alloc _)
        refine hK.out _ _ (fun _=>hS1) ?_
        clear hK K
        refine wpAnyT_one 7 rfl (by kernel_rfl) rfl ?_
        intro K hK
        refine wp_app_at (.tmp 100) (.tmp 102) 44 rfl B 81 i1 _ 4 64 underlying44 hi0 hz0 hz1 hz2 rfl (by decide) (.slice na m nc) m (ys.flatMap NdX.cells) rfl (own_keepM HYO.out ((Mod.refl No wD).alloc _) (fun _ _ f=>f)) ⟨wD.heap.size,0,none⟩ 1 1 [.string NM,.bool an,.slice oa om oc,.string TX] rfl rfl (fun j u hu=>cells_new hu) (by simp [Value.oneCell']) (by unfold maxLen;omega) (by omega) (by simp;omega) ?_
        intro nv' w7 hown hgr hat
        obtain ⟨v2a,v2c,hv2⟩:=(Sl.of_own (X:=No) hown (fun _ _ f=>f)).len
        subst hv2
        simp only [Act.put,List.setIfInBounds_toArray]
        have HOWN:=zh hown
        have HGR:=zh hgr
        have HAT:=zh hat
        clear hown hgr hat
        show K _ _
        have hS2:=HS3.out _ HGR.out
        refine hK.out _ _ (fun _=>hS2) ?_
        clear hK K
        refine wpAnyT_takeC [9,10] 8 (some 104) ?_ rfl rfl (by kernel_rfl) (fun _ _ _ h=>h) hS2 (Or.inl ⟨by rfl,?_⟩) ?_
        rotate_left
        ·(intro w' hSw;obtain ⟨q0,q1⟩:=hSw;go_simp;try with_reducible rfl)
        simp only [Act.put]
        refine wpAnyT_take 9 (some 105) ?_ rfl rfl (by kernel_rfl) (fun _ _ _ h=>h) hS2 (Or.inl ⟨by rfl,?_⟩) ?_
        rotate_left
        ·(intro w' hSw;obtain ⟨q0,q1⟩:=hSw;go_simp;try with_reducible rfl)
        simp only [Act.put]
        refine wpAnyT_one 10 rfl (by kernel_rfl) rfl ?_
        intro K hK
        have c38:=hS2.2
        have f38:=HFZ.out _ HGR.out
        go_simp
        show K _ _
        refine hK.out _ _ (fun h=>absurd rfl h) ?_
        clear hK K
        refine wpAnyT_done (by kernel_rfl) ?_ _
        have hma:Mod No w3 (wD.alloc (.cells #[.string NM,.bool an,.slice oa om oc,.string TX] 81)):=HM3D.out.alloc _
        have hrz:rn=zs.length+1:=by rw [HRK.out,HK.out]
        obtain ⟨-,hW,hMW⟩:=RowsW.want (g:=g) (o:=0) (c:=rc) (n:=n) (nv':=.slice v2a (m+1) v2c) (ov:=.slice oa om oc) (ys:=ys) (by rw [<- hrz];exact HR3.out.no hma) HY1.out (fun y hy=>(HY2.out y hy).keep hma (Apart.no _ _)) (HOR.out.keep hma (Apart.no _ _)) (by rw [<- HMM.out];omega) (by rw [HNV.out];exact HGR.out) (by rw [HNV.out];exact HAT.out) (by rw [<- HMM.out];exact own_keepM HY3.out hma (fun _ _ f=>f)) (by rw [<- HMM.out,HNC.out];exact HOWN.out)
        rw [<- hrz,<- HK.out] at hW
        rw [<- HK.out] at hMW
        have HE:=zh (show LineRes B (w7.setCell ⟨g,k*39+38,none⟩ (.slice v2a (m+1) v2c)) ((zs++[x]).map RwX.r) s (.returned (.tuple #[.slice (some ⟨g,0,none⟩) rn rc,.bool true])) from ⟨_,true,rfl,_,by rw [HGOOD.out h20];simp,hW,by simpa using hxs⟩)
        have HMW:=zh ((HM3.out.no (S:=fun k=>B<=k)).trans (hma.no.trans hMW))
        clear hW hMW hma hi0 hz0 hz1 hz2
        go_wp2_with fail
        exact fin hR ⟨HE.out,HMW.out⟩
  ·have hH1:(H.toList == [112,97,99,107])=false:=by rw [hT];simpa [packT] using hpk
   have hH2:(H.toList == [110,101,101,100])=false:=by rw [hT];simpa [needT] using hnd
   have HE:=zh (show LineRes B w2 (xs.map RwX.r) s (.returned (.tuple #[.slice ra rn rc,.bool false])) from ⟨_,false,rfl,by unfold lineP;rw [if_neg hpk,if_neg hnd];rfl⟩)
   clear hT hpk hnd
   go_wp2_with fail
   exact fin hR ⟨HE.out,HM2.out.no⟩
end Go.Proofs.YtgiigemfbebcgaaGreatDoor
