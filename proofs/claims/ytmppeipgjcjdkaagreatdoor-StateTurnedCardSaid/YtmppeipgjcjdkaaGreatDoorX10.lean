/-
  Layers 0 to 14: helps of the laws of indexes. No statement is proved here; no condition.
-/
import Derived.Test.YtmppeipgjcjdkaaGreatDoorX01
import Derived.Test.YtmppeipgjcjdkaaGreatDoorX09
import Derived.Test.YtmppeipgjcjdkaaGreatDoorX03
import Derived.Test.YtmppeipgjcjdkaaGreatDoorX04
import Derived.Test.YtmppeipgjcjdkaaGreatDoorX08
import Derived.Test.YtmppeipgjcjdkaaGreatDoorX07
import Derived.Test.YtmppeipgjcjdkaaGreatDoorX05
import Derived.Test.YtmppeipgjcjdkaaGreatDoorX00
namespace Go.Proofs.YtmppeipgjcjdkaaGreatDoor
open _root_.Go.Proofs.Tryz
open Go.RowKit
def MlRes (w':World) (B mb n:Nat) (m:Mf) (s:List UInt8) (e:Ending):Prop:=∃ ok:Bool,e=.returned (.bool ok) ∧
 (if ok then ∃ m' pv nv ys,mstep n m s=some m'/\MfW w' B mb m' pv nv ys else mstep n m s=none)
theorem mstep0 (m:Mf) (s:List UInt8):mstep 0 m s=if s.take 5=nameW/\nameB (s.drop 5)=true then some { m with name:=s.drop 5 } else none:=rfl
theorem mstep1 (m:Mf) (s:List UInt8):mstep 1 m s=if s.take 8=versionW then (verOf (s.drop 8)).map fun v=>{ m with v:=v } else none:=rfl
theorem mstep2 {n:Nat} (h:2<=n) (m:Mf) (s:List UInt8):mstep n m s=(needLine s).bind fun x=>if x.name=m.name\/x.name ∈ m.needs.map Nd.name\/m.needs.length=20 then none else some { m with needs:=m.needs++[x] }:=by
 unfold mstep
 rw [if_neg (by omega),if_neg (by omega)]
theorem cutp (s p:List UInt8) (w:World):Calls prog 156 #[strV s,strV p] w fun e w'=>e=.returned (.tuple #[strV (Lib.trimPrefix s p),.bool (decide (s.take p.length=p))])/\w'=w :=
 (Tryz.strings_CutPrefix ⟨s.toArray⟩ ⟨p.toArray⟩ w).mono fun e w' ⟨he,hw⟩=>⟨he.trans (by rw [<- prefix_iff]),hw⟩
theorem trimp {s p:List UInt8} (h:s.take p.length=p):Lib.trimPrefix s p=s.drop p.length:=by
 unfold Lib.trimPrefix
 rw [if_pos (by rw [prefix_iff];exact decide_eq_true h)]
theorem trimp_le (s p:List UInt8):(Lib.trimPrefix s p).length<=s.length:=by
 unfold Lib.trimPrefix
 split
 ·rw [List.length_drop];omega
 ·omega
set_option maxRecDepth 100000 in
set_option maxHeartbeats 8000000 in
theorem mline_name (B mb:Nat) (hmb:mb < B) (m:Mf) (pv nv:Value) (ys:List NdX) (s:List UInt8) (hl:s.length<=100000) (w:World) (hw:MfW w B mb m pv nv ys) :
  Calls prog 100 #[.pointer (some ⟨mb,0,none⟩),.int .i64 0,strV s] w fun e w'=>MlRes w' B mb 0 m s e/\Mod (fun k=>k=mb\/B<=k) w w':=by
 refine calls_hide fun R hR=>?_
 have HCP:=zh (cutp s nameW)
 have HT:=zh (show decide (s.take nameW.length=nameW)=true->Lib.trimPrefix s nameW=s.drop 5 from fun h=>trimp (of_decide_eq_true h))
 have hle:=trimp_le s nameW
 have HW:=zh hw
 have HST:=zh (mstep0 m s)
 have HD:=zh (show decide (s.take nameW.length=nameW)=decide (s.take 5=nameW) from rfl)
 generalize Lib.trimPrefix s nameW=r at *
 have HNM:=zh (name_any r (by omega))
 have c0:=cell_ofA hw.cells (i:=0) rfl
 have f0:=frozen_of 0 hw.cells
 have HW1:=zh (show MfW (w.setCell ⟨mb,0,none⟩ (strV r)) B mb { m with name:=r } pv nv ys from
  hw.stored hmb (Mod.cell1 _ _ _ _) rfl (by rw [heap_setCell hw.cells (strV r)];rfl) (hw.pre.apart (Mod.cell1 _ _ _ _) (fun k cur fz e hk hc2 he=>by
   have hk2:k=mb:=hk
   subst hk2
   rw [hw.cells] at hc2
   cases hc2
   simp at he)))
 have HM1:=zh (show Mod (fun k=>k=mb\/B<=k) w (w.setCell ⟨mb,0,none⟩ (strV r)) from (Mod.cell1 w mb 0 (strV r)).weaken (fun _ _ e=>.inl e))
 generalize decide (s.take nameW.length=nameW)=ok at *
 generalize hnb:nameB r=nb at *
 have HNB:=zh hnb
 clear hw hnb hle hl
 unfold strV at *
 unfold nameW at HCP
 generalize (⟨r.toArray⟩:ByteArray)=RR at *
 generalize (⟨s.toArray⟩:ByteArray)=Z at *
 go_enter func100,ntmps100
 go_wp2_with fail
 with_reducible refine (HCP.out _).mono ?_
 rintro e wB ⟨rfl,rfl⟩
 rcases ok with _ | _
 ·have HE:=zh (show mstep 0 m s=none by rw [HST.out,if_neg];rintro ⟨h,-⟩;have:=HD.out;rw [decide_eq_true h] at this;cases this)
  go_wp2_with fail
  exact fin hR ⟨⟨false,rfl,HE.out⟩,HM1.out⟩
 ·have HR:=zh (HT.out rfl)
  have h5:s.take 5=nameW:=of_decide_eq_true HD.out.symm
  rcases nb with _ | _
  ·have HE:=zh (show mstep 0 m s=none by rw [HST.out,if_neg];rintro ⟨-,h⟩;rw [<- HR.out,HNB.out] at h;cases h)
   clear h5
   go_wp2_with fail
   with_reducible refine (HNM.out _).mono ?_
   rintro e wC ⟨rfl,rfl⟩
   go_wp2_with fail
   exact fin hR ⟨⟨false,rfl,HE.out⟩,HM1.out⟩
  ·have HE:=zh (show mstep 0 m s=some { m with name:=r } by rw [HST.out,if_pos ⟨h5,by rw [<- HR.out,HNB.out]⟩,HR.out])
   clear h5
   go_wp2_with fail
   with_reducible refine (HNM.out _).mono ?_
   rintro e wC ⟨rfl,rfl⟩
   go_wp2_with fail
   exact fin hR ⟨⟨true,rfl,_,_,_,_,HE.out,HW1.out⟩,HM1.out⟩
set_option maxRecDepth 100000 in
set_option maxHeartbeats 8000000 in
theorem mline_ver (B mb:Nat) (hmb:mb < B) (m:Mf) (pv nv:Value) (ys:List NdX) (s:List UInt8) (hl:s.length<=100000) (w:World) (hgl:Gl w) (hBw:B<=w.heap.size) (hw:MfW w B mb m pv nv ys) :
  Calls prog 100 #[.pointer (some ⟨mb,0,none⟩),.int .i64 1,strV s] w fun e w'=>MlRes w' B mb 1 m s e/\Mod (fun k=>k=mb\/B<=k) w w':=by
 refine calls_hide fun R hR=>?_
 have HCP:=zh (cutp s versionW)
 have HT:=zh (show decide (s.take versionW.length=versionW)=true->Lib.trimPrefix s versionW=s.drop 8 from fun h=>trimp (of_decide_eq_true h))
 have hle:=trimp_le s versionW
 have HW:=zh hw
 have HST:=zh (mstep1 m s)
 have HD:=zh (show decide (s.take versionW.length=versionW)=decide (s.take 8=versionW) from rfl)
 generalize Lib.trimPrefix s versionW=r at *
 have HVP:=zh (verparse_u r (by omega) w hgl)
 generalize decide (s.take versionW.length=versionW)=ok at *
 clear hw hle hl hgl
 have HBW:=zh hBw
 unfold strV at *
 unfold versionW at HCP
 generalize (⟨r.toArray⟩:ByteArray)=RR at *
 generalize (⟨s.toArray⟩:ByteArray)=Z at *
 go_enter func100,ntmps100
 go_wp2_with fail
 with_reducible refine (HCP.out _).mono ?_
 rintro e wB ⟨rfl,rfl⟩
 go_wp2_with fail
 with_reducible refine HVP.out.mono ?_
 rintro e w2 ⟨⟨v,vpv,c,rfl,hsm,hsl,hcv⟩,hm2⟩
 have HW2:=zh (HW.out.no hm2)
 have HSL:=zh (show Sl w2 No 9 vpv v.pre.length (strs v.pre) from hsl.shrink (fun _ _ f=>f.elim))
 obtain ⟨va,vc,hvv⟩:=hsl.len
 subst hvv
 have HCV:=zh hcv
 have HM2:=zh hm2
 clear hsm hsl hcv hm2 HVP HCP
 go_upto_region 9 with fail
 obtain ⟨gv,hgv⟩:∃ g,g=w2.heap.size:=⟨_,rfl⟩
 rw [<- hgv]
 generalize hw3:World.alloc w2 _=w3
 have hv3:w3.heap[gv]? = some (.cells #[.int .i64 v.ma,.int .i64 v.mi,.int .i64 v.pa,.slice va v.pre.length vc] 45 (0,0)):=by rw [<- hw3,hgv];exact heap_alloc_new w2 _
 have hm3:Mod No w2 w3:=by rw [<- hw3];exact (Mod.refl No w2).alloc _
 have HW3:=zh (HW2.out.no hm3)
 have HS3:=zh (show Sl w3 No 9 (.slice va v.pre.length vc) v.pre.length (strs v.pre) from HSL.out.kn hm3)
 have HM3:=zh (HM2.out.trans hm3)
 have hgb:mb ≠ gv:=by have:=HBW.out;have:=HM2.out.size;omega
 have HGB:=zh hgb
 clear hw3 hm3 HW2 HSL HM2 hgv hgb
 have v0:=cell_ofA hv3 (i:=0) rfl
 have v1:=cell_ofA hv3 (i:=1) rfl
 have v2:=cell_ofA hv3 (i:=2) rfl
 have v3:=cell_ofA hv3 (i:=3) rfl
 have f1:=frozen_of 1 HW3.out.cells
 have f2:=frozen_of 2 HW3.out.cells
 have f3:=frozen_of 3 HW3.out.cells
 have f4:=frozen_of 4 HW3.out.cells
 have e1:=cell_ofA HW3.out.cells (i:=1) rfl
 have e2:=cell_ofA HW3.out.cells (i:=2) rfl
 have e3:=cell_ofA HW3.out.cells (i:=3) rfl
 have e4:=cell_ofA HW3.out.cells (i:=4) rfl
 clear hv3
 go_upto_region 10 with fail
 generalize hw4:World.setCell (World.setCell (World.setCell (World.setCell w3 _ _) _ _) _ _) _ _=w4
 have hm4:Mod (fun k=>k=mb) w3 w4:=by
  rw [<- hw4]
  exact ((((Mod.refl (fun k=>k=mb) w3).setCell (fun _=>rfl) _).setCell (fun _=>rfl) _).setCell (fun _=>rfl) _).setCell (fun _=>rfl) _
 have HW4:=zh (show MfW w4 B mb { m with v:=v } (.slice va v.pre.length vc) nv ys from
  HW3.out.stored hmb hm4 rfl (by rw [<- hw4,heap_setCell (heap_setCell (heap_setCell (heap_setCell HW3.out.cells _) _) _) _];rfl) (HS3.out.apart hm4 (fun k cur fz e hk hc2 he=>by
   have hk2:k=mb:=hk
   subst hk2
   rw [HW3.out.cells] at hc2
   cases hc2
   simp at he)))
 have HM4:=zh ((HM3.out.no (S:=fun k=>k=mb\/B<=k)).trans (hm4.weaken (fun _ _ e=>.inl e)))
 clear hw4 hm4 v0 v1 v2 v3 f1 f2 f3 f4 e1 e2 e3 e4 HW3 HS3 HM3
 rcases ok with _ | _
 ·have HE:=zh (show mstep 1 m s=none by rw [HST.out,if_neg];intro h;have:=HD.out;rw [decide_eq_true h] at this;cases this)
  go_wp2_with fail
  exact fin hR ⟨⟨false,rfl,HE.out⟩,HM4.out⟩
 ·have HR:=zh (HT.out rfl)
  have h8:s.take 8=versionW:=of_decide_eq_true HD.out.symm
  rcases HCV.out with ⟨rfl,h⟩ | ⟨rfl,h⟩
  ·have HE:=zh (show mstep 1 m s=some { m with v:=v } by rw [HST.out,if_pos h8,<- HR.out,h];rfl)
   clear h8 h HCV
   go_wp2_with fail
   exact fin hR ⟨⟨true,rfl,_,_,_,_,HE.out,HW4.out⟩,HM4.out⟩
  ·have HE:=zh (show mstep 1 m s=none by rw [HST.out,if_pos h8,<- HR.out,h];rfl)
   clear h8 h HCV
   go_wp2_with fail
   exact fin hR ⟨⟨false,rfl,HE.out⟩,HM4.out⟩
set_option maxRecDepth 100000 in
set_option maxHeartbeats 8000000 in
theorem mline_need (B mb n:Nat) (hn2:2<=n) (hn3:n<=1000000) (hmb:mb < B) (m:Mf) (pv nv:Value) (ys:List NdX) (s:List UInt8) (hl:s.length<=100000) (w:World) (hgl:Gl w) (hBw:B<=w.heap.size) (hw:MfW w B mb m pv nv ys) :
  Calls prog 100 #[.pointer (some ⟨mb,0,none⟩),.int .i64 (n:Int),strV s] w fun e w'=>MlRes w' B mb n m s e/\Mod (fun k=>k=mb\/B<=k) w w':=by
 refine calls_hide fun R hR=>?_
 have HND:=zh (need_any s (by omega) w hgl)
 have HW:=zh hw
 have HLQ:=zh (mstep2 hn2 m s)
 have HBW:=zh hBw
 have HMB0:=zh hmb
 have g0:((n:Int) == 0)=false:=by simp;omega
 have g1:((n:Int) == 1)=false:=by simp;omega
 clear hgl hn2 hn3 hBw hw hl
 unfold strV at *
 generalize (⟨s.toArray⟩:ByteArray)=Z at *
 go_enter func100,ntmps100
 go_wp2_with fail
 with_reducible refine HND.out.mono ?_
 rintro e w3 ⟨hv,hm3⟩
 have HM3:=zh hm3
 have HW3:=zh (HW.out.no hm3)
 have hyl:ys.length=m.needs.length:=by rw [<- HW.out.nds,List.length_map]
 obtain ⟨na,nc,hnv⟩:=(Sl.of_own (X:=No) HW3.out.own (fun _ _ f=>f)).len
 have hfew:=HW3.out.few
 subst hnv
 clear hm3 HW g0 g1
 obtain ⟨k,hk⟩:∃ k,k=m.needs.length:=⟨_,rfl⟩
 rw [<- hk] at hfew hyl HLQ HW3
 have HKK:=zh hk
 have hk0:(0:Int)<=(k:Int):=Int.natCast_nonneg _
 have hcn:w3.cell? ⟨mb,0,none⟩=some (strV m.name):=cell_ofA HW3.out.cells (i:=0) rfl
 have hcv:w3.cell? ⟨mb,5,none⟩=some (.slice na k nc):=cell_ofA HW3.out.cells (i:=5) rfl
 clear hk
 obtain ⟨LN,hLN⟩:∃ b:ByteArray,b=⟨m.name.toArray⟩:=⟨_,rfl⟩
 have hLL:LN.toList=m.name:=by rw [hLN];exact str_list m.name
 unfold strV at hcn
 rw [<- hLN] at hcn
 clear hLN
 cases hnl:needLine s with
 | none =>
  rw [hnl] at hv
  obtain ⟨NM,an,oa,om,oc,TX,rfl⟩:=hv
  have HFAIL:=zh (show ∀ w',MlRes w' B mb n m s (.returned (.bool false)) from fun w'=>⟨false,rfl,by rw [HLQ.out,hnl];rfl⟩)
  clear HLQ hnl
  go_upto_region 12 with fail
  obtain ⟨nb,hnb⟩:∃ g,g=w3.heap.size:=⟨_,rfl⟩
  rw [<- hnb]
  generalize hw4:World.alloc w3 _=w4
  obtain ⟨wA,hwA⟩:∃ z,z=w4.drew:=⟨_,rfl⟩
  have hm3A:Mod No w3 wA:=by rw [hwA,<- hw4];exact ((Mod.refl No w3).alloc _).drew
  have HM3A:=zh hm3A
  have HNB:=zh (show wA.heap[nb]? = some (.cells #[.string NM,.bool an,.slice oa om oc,.string TX] 113 (0,0)) by rw [hwA,<- hw4,hnb];exact heap_alloc_new w3 _)
  have HCN:=zh (hm3A.cell hcn (fun f=>f))
  have HCV:=zh (hm3A.cell hcv (fun f=>f))
  have HSB:=zh (show ∀ w',Mod No wA w'->w'.cell? ⟨nb,0,none⟩=some (.string NM)/\w'.cell? ⟨mb,0,none⟩=some (.string LN)/\w'.cell? ⟨mb,5,none⟩=some (.slice na k nc) from fun w' h =>
   ⟨cell_ofA (h.keep HNB.out (fun f=>f)) rfl,h.cell HCN.out (fun f=>f),h.cell HCV.out (fun f=>f)⟩)
  have hS0:=HSB.out wA (Mod.refl _ _)
  have HWA:=zh hwA
  have HMz:=zh ((HM3.out.trans hm3A).no (S:=fun k=>k=mb\/B<=k))
  have HNQ:=zh hnb
  clear hwA hw4 hm3A hcn hcv hnb
  refine wp_region_T (fun w'=>w'.cell? ⟨nb,0,none⟩=some (.string NM)/\w'.cell? ⟨mb,0,none⟩=some (.string LN)/\w'.cell? ⟨mb,5,none⟩=some (.slice na k nc)) 99 (by kernel_rfl) ?_
  rw [<- HWA.out]
  clear HWA
  refine yS 0 58 hS0 ?_
  refine yS 1 59 hS0 ?_
  refine yS 2 60 hS0 ?_
  refine yU 3 61 hS0 ?_
  refine yU 4 62 hS0 ?_
  refine yU 5 63 hS0 ?_
  refine yU 6 64 hS0 ?_
  refine yU 7 65 hS0 ?_
  refine yU 8 66 hS0 ?_
  refine yU 9 67 hS0 ?_
  refine yS 10 68 hS0 ?_
  refine yS 11 69 hS0 ?_
  refine yU 12 70 hS0 ?_
  refine yU 13 71 hS0 ?_
  refine yU 14 72 hS0 ?_
  refine yU 15 73 hS0 ?_
  refine yU 16 74 hS0 ?_
  refine yU 17 75 hS0 ?_
  refine yU 18 76 hS0 ?_
  refine yS 19 77 hS0 ?_
  refine yS 20 78 hS0 ?_
  refine yU 21 79 hS0 ?_
  refine yU 22 80 hS0 ?_
  refine yU 23 81 hS0 ?_
  refine yU 24 82 hS0 ?_
  refine yU 25 83 hS0 ?_
  refine yU 26 84 hS0 ?_
  refine yT 27 (some 85) ?_ hS0 ?_ ?_
  rotate_left
  ·(intro w' hSw;obtain ⟨q0,q1,q2⟩:=hSw;go_simp;try with_reducible rfl)
  simp only [Act.put]
  refine wpAnyT_done (by kernel_rfl) ?_ _
  go_wp2_with fail
  exact fin hR ⟨HFAIL.out _,HMz.out⟩
 | some x =>
  rw [hnl] at hv
  obtain ⟨oa,om,oc,rfl,hor⟩:=hv
  have HOR:=zh hor
  have HHAS:=zh (fun W (hm:Mod No w3 W)=>has_any ys (by omega) (fun y hy=>by
   obtain ⟨os,-,-,h⟩:=HW3.out.ors y hy
   obtain ⟨a,c,e⟩:=h.len
   exact ⟨a,_,c,e⟩) x.name (.slice na k nc) W (by rw [hyl];have h:=(Sl.of_own (X:=No) HW3.out.own (fun _ _ f=>f)).kn hm;rw [<- HKK.out] at h;exact h))
  have HHM:=zh (show (ys.any fun y=>decide (y.n.name=x.name))=decide (x.name ∈ m.needs.map Nd.name) by
   rw [<- HW3.out.nds,List.map_map]
   by_cases h:∃ y ∈ ys,y.n.name=x.name
   ·rw [decide_eq_true (by obtain ⟨y,hy,e⟩:=h;exact List.mem_map.2 ⟨y,hy,e⟩)]
    obtain ⟨y,hy,e⟩:=h
    exact List.any_eq_true.2 ⟨y,hy,by simpa using e⟩
   ·rw [decide_eq_false (fun hm=>by obtain ⟨y,hy,e⟩:=List.mem_map.1 hm;exact h ⟨y,hy,e⟩)]
    exact List.any_eq_false.2 (fun y hy e=>h ⟨y,hy,by simpa using e⟩))
  have hT1:=str_list x.name
  unfold strV at *
  obtain ⟨an,han⟩:∃ b,b=x.span.any:=⟨_,rfl⟩
  obtain ⟨NM,hNM⟩:∃ b:ByteArray,b=⟨x.name.toArray⟩:=⟨_,rfl⟩
  obtain ⟨TX,hTX⟩:∃ b:ByteArray,b=⟨x.text.toArray⟩:=⟨_,rfl⟩
  rw [<- han,<- hNM,<- hTX]
  rw [<- hNM] at hT1 HHAS
  have HNC:=zh (show NdX.cells ⟨x,.slice oa om oc⟩=[.string NM,.bool an,.slice oa om oc,.string TX] by rw [han,hNM,hTX];rfl)
  clear hor han hNM hTX
  by_cases hsame:x.name=m.name
  ·have HFAIL:=zh (show ∀ w',MlRes w' B mb n m s (.returned (.bool false)) from fun w'=>⟨false,rfl,by rw [HLQ.out,hnl];simp [hsame]⟩)
   have he:(NM.toList == LN.toList)=true:=by rw [hT1,hLL,hsame];simp
   clear HLQ hnl hsame hT1 hLL HHAS HHM
   go_upto_region 12 with fail
   obtain ⟨nb,hnb⟩:∃ g,g=w3.heap.size:=⟨_,rfl⟩
   rw [<- hnb]
   generalize hw4:World.alloc w3 _=w4
   obtain ⟨wA,hwA⟩:∃ z,z=w4.drew:=⟨_,rfl⟩
   have hm3A:Mod No w3 wA:=by rw [hwA,<- hw4];exact ((Mod.refl No w3).alloc _).drew
   have HM3A:=zh hm3A
   have HNB:=zh (show wA.heap[nb]? = some (.cells #[.string NM,.bool an,.slice oa om oc,.string TX] 113 (0,0)) by rw [hwA,<- hw4,hnb];exact heap_alloc_new w3 _)
   have HCN:=zh (hm3A.cell hcn (fun f=>f))
   have HCV:=zh (hm3A.cell hcv (fun f=>f))
   have HSB:=zh (show ∀ w',Mod No wA w'->w'.cell? ⟨nb,0,none⟩=some (.string NM)/\w'.cell? ⟨mb,0,none⟩=some (.string LN)/\w'.cell? ⟨mb,5,none⟩=some (.slice na k nc) from fun w' h =>
    ⟨cell_ofA (h.keep HNB.out (fun f=>f)) rfl,h.cell HCN.out (fun f=>f),h.cell HCV.out (fun f=>f)⟩)
   have hS0:=HSB.out wA (Mod.refl _ _)
   have HWA:=zh hwA
   have HMz:=zh ((HM3.out.trans hm3A).no (S:=fun k=>k=mb\/B<=k))
   have HNQ:=zh hnb
   clear hwA hw4 hm3A hcn hcv hnb
   refine wp_region_T (fun w'=>w'.cell? ⟨nb,0,none⟩=some (.string NM)/\w'.cell? ⟨mb,0,none⟩=some (.string LN)/\w'.cell? ⟨mb,5,none⟩=some (.slice na k nc)) 99 (by kernel_rfl) ?_
   rw [<- HWA.out]
   clear HWA
   refine yS 0 58 hS0 ?_
   refine yS 1 59 hS0 ?_
   refine yS 2 60 hS0 ?_
   refine yS 3 61 hS0 ?_
   refine yS 4 62 hS0 ?_
   refine yS 5 63 hS0 ?_
   refine yS 6 64 hS0 ?_
   refine yS 7 65 hS0 ?_
   refine yS 8 66 hS0 ?_
   refine yS 9 67 hS0 ?_
   refine yS 10 68 hS0 ?_
   refine yS 11 69 hS0 ?_
   refine yU 12 70 hS0 ?_
   refine yU 13 71 hS0 ?_
   refine yU 14 72 hS0 ?_
   refine yU 15 73 hS0 ?_
   refine yU 16 74 hS0 ?_
   refine yU 17 75 hS0 ?_
   refine yU 18 76 hS0 ?_
   refine yS 19 77 hS0 ?_
   refine yS 20 78 hS0 ?_
   refine yU 21 79 hS0 ?_
   refine yU 22 80 hS0 ?_
   refine yU 23 81 hS0 ?_
   refine yU 24 82 hS0 ?_
   refine yU 25 83 hS0 ?_
   refine yU 26 84 hS0 ?_
   refine yT 27 (some 85) ?_ hS0 ?_ ?_
   rotate_left
   ·(intro w' hSw;obtain ⟨q0,q1,q2⟩:=hSw;go_simp;try with_reducible rfl)
   simp only [Act.put]
   refine wpAnyT_done (by kernel_rfl) ?_ _
   go_wp2_with fail
   exact fin hR ⟨HFAIL.out _,HMz.out⟩
  ·have he:(NM.toList == LN.toList)=false:=by rw [hT1,hLL];simpa using hsame
   by_cases hmem:x.name ∈ m.needs.map Nd.name
   ·have HFAIL:=zh (show ∀ w',MlRes w' B mb n m s (.returned (.bool false)) from fun w'=>⟨false,rfl,show mstep n m s=none by rw [HLQ.out,hnl];simp only [Option.bind_some];rw [if_pos (.inr (.inl hmem))]⟩)
    have HHV:=zh (show (ys.any fun y=>decide (y.n.name=x.name))=true by rw [HHM.out];exact decide_eq_true hmem)
    clear HLQ hnl hsame hT1 hLL HHM hmem
    go_upto_region 12 with fail
    obtain ⟨nb,hnb⟩:∃ g,g=w3.heap.size:=⟨_,rfl⟩
    rw [<- hnb]
    generalize hw4:World.alloc w3 _=w4
    obtain ⟨wA,hwA⟩:∃ z,z=w4.drew:=⟨_,rfl⟩
    have hm3A:Mod No w3 wA:=by rw [hwA,<- hw4];exact ((Mod.refl No w3).alloc _).drew
    have HM3A:=zh hm3A
    have HNB:=zh (show wA.heap[nb]? = some (.cells #[.string NM,.bool an,.slice oa om oc,.string TX] 113 (0,0)) by rw [hwA,<- hw4,hnb];exact heap_alloc_new w3 _)
    have HCN:=zh (hm3A.cell hcn (fun f=>f))
    have HCV:=zh (hm3A.cell hcv (fun f=>f))
    have HSB:=zh (show ∀ w',Mod No wA w'->w'.cell? ⟨nb,0,none⟩=some (.string NM)/\w'.cell? ⟨mb,0,none⟩=some (.string LN)/\w'.cell? ⟨mb,5,none⟩=some (.slice na k nc) from fun w' h =>
     ⟨cell_ofA (h.keep HNB.out (fun f=>f)) rfl,h.cell HCN.out (fun f=>f),h.cell HCV.out (fun f=>f)⟩)
    have hS0:=HSB.out wA (Mod.refl _ _)
    have HWA:=zh hwA
    have HMz:=zh ((HM3.out.trans hm3A).no (S:=fun k=>k=mb\/B<=k))
    have HNQ:=zh hnb
    clear hwA hw4 hm3A hcn hcv hnb
    refine wp_region_T (fun w'=>w'.cell? ⟨nb,0,none⟩=some (.string NM)/\w'.cell? ⟨mb,0,none⟩=some (.string LN)/\w'.cell? ⟨mb,5,none⟩=some (.slice na k nc)) 99 (by kernel_rfl) ?_
    rw [<- HWA.out]
    clear HWA
    refine yS 0 58 hS0 ?_
    refine yS 1 59 hS0 ?_
    refine yS 2 60 hS0 ?_
    refine yS 3 61 hS0 ?_
    refine yS 4 62 hS0 ?_
    refine yS 5 63 hS0 ?_
    refine yS 6 64 hS0 ?_
    refine yS 7 65 hS0 ?_
    refine yS 8 66 hS0 ?_
    refine yS 9 67 hS0 ?_
    refine yS 10 68 hS0 ?_
    refine yS 11 69 hS0 ?_
    refine yS 12 70 hS0 ?_
    refine yS 13 71 hS0 ?_
    refine yS 14 72 hS0 ?_
    refine yS 15 73 hS0 ?_
    refine yS 16 74 hS0 ?_
    refine yS 17 75 hS0 ?_
    refine wpAnyT_oneW 18 rfl (by kernel_rfl) (by rfl) ?_
    intro K hK
    go_simp
    go_at_call 160
    with_reducible refine (HHAS.out _ HM3A.out).mono ?_
    rintro e wB ⟨rfl,hB⟩
    have HB:=zh hB
    have HMB:=zh (HM3A.out.trans hB)
    rw [HHV.out]
    clear hB
    show K _ _
    have hS1:=HSB.out wB HB.out
    refine hK.out _ _ (fun _=>hS1) ?_
    clear hK K
    refine yS 19 77 hS1 ?_
    refine yS 20 78 hS1 ?_
    refine yU 21 79 hS1 ?_
    refine yU 22 80 hS1 ?_
    refine yU 23 81 hS1 ?_
    refine yU 24 82 hS1 ?_
    refine yU 25 83 hS1 ?_
    refine yU 26 84 hS1 ?_
    refine yT 27 (some 85) ?_ hS1 ?_ ?_
    rotate_left
    ·(intro w' hSw;obtain ⟨q0,q1,q2⟩:=hSw;go_simp;try with_reducible rfl)
    simp only [Act.put]
    refine wpAnyT_done (by kernel_rfl) ?_ _
    have HMz:=zh ((HM3.out.trans HMB.out).no (S:=fun k=>k=mb\/B<=k))
    go_wp2_with fail
    exact fin hR ⟨HFAIL.out _,HMz.out⟩
   ·have HFAIL:=zh (show k=20->∀ w',MlRes w' B mb n m s (.returned (.bool false)) from fun h20 w'=>⟨false,rfl,show mstep n m s=none by rw [HLQ.out,hnl];simp only [Option.bind_some];rw [if_pos (.inr (.inr h20))]⟩)
    have HGOOD:=zh (show k ≠ 20->mstep n m s=some { m with needs:=m.needs++[x] } from fun h20=>by rw [HLQ.out,hnl];simp only [Option.bind_some];rw [if_neg (fun h=>h.elim hsame (fun h=>h.elim hmem h20))])
    have HHV:=zh (show (ys.any fun y=>decide (y.n.name=x.name))=false by rw [HHM.out];exact decide_eq_false hmem)
    clear HLQ hnl hsame hT1 hLL HHM hmem
    go_upto_region 12 with fail
    obtain ⟨nb,hnb⟩:∃ g,g=w3.heap.size:=⟨_,rfl⟩
    rw [<- hnb]
    generalize hw4:World.alloc w3 _=w4
    obtain ⟨wA,hwA⟩:∃ z,z=w4.drew:=⟨_,rfl⟩
    have hm3A:Mod No w3 wA:=by rw [hwA,<- hw4];exact ((Mod.refl No w3).alloc _).drew
    have HM3A:=zh hm3A
    have HNB:=zh (show wA.heap[nb]? = some (.cells #[.string NM,.bool an,.slice oa om oc,.string TX] 113 (0,0)) by rw [hwA,<- hw4,hnb];exact heap_alloc_new w3 _)
    have HCN:=zh (hm3A.cell hcn (fun f=>f))
    have HCV:=zh (hm3A.cell hcv (fun f=>f))
    have HSB:=zh (show ∀ w',Mod No wA w'->w'.cell? ⟨nb,0,none⟩=some (.string NM)/\w'.cell? ⟨mb,0,none⟩=some (.string LN)/\w'.cell? ⟨mb,5,none⟩=some (.slice na k nc) from fun w' h =>
     ⟨cell_ofA (h.keep HNB.out (fun f=>f)) rfl,h.cell HCN.out (fun f=>f),h.cell HCV.out (fun f=>f)⟩)
    have hS0:=HSB.out wA (Mod.refl _ _)
    have HWA:=zh hwA
    have HMz:=zh ((HM3.out.trans hm3A).no (S:=fun k=>k=mb\/B<=k))
    have HNQ:=zh hnb
    clear hwA hw4 hm3A hcn hcv hnb
    refine wp_region_T (fun w'=>w'.cell? ⟨nb,0,none⟩=some (.string NM)/\w'.cell? ⟨mb,0,none⟩=some (.string LN)/\w'.cell? ⟨mb,5,none⟩=some (.slice na k nc)) 99 (by kernel_rfl) ?_
    rw [<- HWA.out]
    clear HWA
    refine yS 0 58 hS0 ?_
    refine yS 1 59 hS0 ?_
    refine yS 2 60 hS0 ?_
    refine yS 3 61 hS0 ?_
    refine yS 4 62 hS0 ?_
    refine yS 5 63 hS0 ?_
    refine yS 6 64 hS0 ?_
    refine yS 7 65 hS0 ?_
    refine yS 8 66 hS0 ?_
    refine yS 9 67 hS0 ?_
    refine yS 10 68 hS0 ?_
    refine yS 11 69 hS0 ?_
    refine yS 12 70 hS0 ?_
    refine yS 13 71 hS0 ?_
    refine yS 14 72 hS0 ?_
    refine yS 15 73 hS0 ?_
    refine yS 16 74 hS0 ?_
    refine yS 17 75 hS0 ?_
    refine wpAnyT_oneW 18 rfl (by kernel_rfl) (by rfl) ?_
    intro K hK
    go_simp
    go_at_call 160
    with_reducible refine (HHAS.out _ HM3A.out).mono ?_
    rintro e wB ⟨rfl,hB⟩
    have HB:=zh hB
    have HMB:=zh (HM3A.out.trans hB)
    rw [HHV.out]
    clear hB
    show K _ _
    have hS1:=HSB.out wB HB.out
    refine hK.out _ _ (fun _=>hS1) ?_
    clear hK K
    refine yS 19 77 hS1 ?_
    refine yS 20 78 hS1 ?_
    refine yS 21 79 hS1 ?_
    refine yS 22 80 hS1 ?_
    refine yS 23 81 hS1 ?_
    refine yS 24 82 hS1 ?_
    refine yS 25 83 hS1 ?_
    refine yS 26 84 hS1 ?_
    refine yT 27 (some 85) ?_ hS1 ?_ ?_
    rotate_left
    ·(intro w' hSw;obtain ⟨q0,q1,q2⟩:=hSw;go_simp;try with_reducible rfl)
    simp only [Act.put]
    refine wpAnyT_done (by kernel_rfl) ?_ _
    have HMz:=zh ((HM3.out.trans HMB.out).no (S:=fun k=>k=mb\/B<=k))
    by_cases h20:k=20
    ·have h21:((k:Int) == 20)=true:=by simp;omega
     go_wp2_with fail
     exact fin hR ⟨HFAIL.out h20 _,HMz.out⟩
    ·have h21:((k:Int) == 20)=false:=by simp;omega
     go_upto_region 14 with fail
     obtain ⟨wD,hwD⟩:∃ z,z=wB.drew:=⟨_,rfl⟩
     have hmBD:Mod No wB wD:=by rw [hwD];exact (Mod.refl No wB).drew
     have HM3D:=zh (HMB.out.trans hmBD)
     have HNBD:=zh (hmBD.keep (HB.out.keep HNB.out (fun f=>f)) (fun f=>f))
     have HWD2:=zh (HW3.out.no HM3D.out)
     have HCVD:=zh (hmBD.cell (HB.out.cell HCV.out (fun f=>f)) (fun f=>f))
     have HYO:=zh (show wD.ownsRow B 113 4 (.slice na k nc) k (ys.flatMap NdX.cells) by have h:=HWD2.out.own;rw [<- HKK.out] at h;exact h)
     have HLT:=zh (show ∀ q,(Value.slice na k nc).ownBlock=some q->q < nb/\q ≠ mb from fun q hq=>by
      obtain ⟨cur,hc⟩:=own_heapM HW3.out.own (k:=q) hq
      have hb:=own_atB HYO.out hq
      exact ⟨by have:=lt_of_heap hc;have:=HNQ.out;omega,by have:=HMB0.out;omega⟩)
     have HS2:=zh (show ∀ w',Mod No wD w'->w'.heap[nb]? = some (.cells #[.string NM,.bool an,.slice oa om oc,.string TX] 113 (0,0))/\w'.cell? ⟨mb,5,none⟩=some (.slice na k nc) from fun w' h=>⟨h.keep HNBD.out (fun f=>f),h.cell HCVD.out (fun f=>f)⟩)
     have HGM:=zh (show ∀ w7,World.grownBy (wD.alloc (.cells #[.string NM,.bool an,.slice oa om oc,.string TX] 113)) w7 (Value.slice na k nc).ownBlock->Mod (fun q=>(Value.slice na k nc).ownBlock=some q) wD w7 from fun w7 h=>((Mod.refl No wD).alloc _).no.trans (Mod.of_grown h (fun q hq _=>hq)))
     have HS3:=zh (show ∀ w7,World.grownBy (wD.alloc (.cells #[.string NM,.bool an,.slice oa om oc,.string TX] 113)) w7 (Value.slice na k nc).ownBlock->w7.heap[nb]? = some (.cells #[.string NM,.bool an,.slice oa om oc,.string TX] 113 (0,0))/\w7.cell? ⟨mb,5,none⟩=some (.slice na k nc) from fun w7 h =>
      ⟨(HGM.out w7 h).keep HNBD.out (fun e=>by have:=(HLT.out _ e).1;omega),(HGM.out w7 h).cell HCVD.out (fun e=>(HLT.out _ e).2 rfl)⟩)
     have HFZ:=zh (show ∀ w7,World.grownBy (wD.alloc (.cells #[.string NM,.bool an,.slice oa om oc,.string TX] 113)) w7 (Value.slice na k nc).ownBlock->w7.frozen? ⟨mb,5,none⟩=false from fun w7 h=>by
      exact frozen_of _ ((HGM.out w7 h).keep HWD2.out.cells (fun e=>(HLT.out _ e).2 rfl)))
     obtain ⟨i1,hi0,hz0,hz1,hz2⟩:=info_partsN
     have hbD:B<=wD.heap.size:=by
      have h1:=HM3D.out.size
      have h2:=HM3.out.size
      have h3:=HBW.out
      omega
     have hm19:k<=19:=by omega
     have hS0:=HS2.out wD (Mod.refl _ _)
     have HWD:=zh hwD
     clear hwD hmBD hS1
     refine wp_region_T (fun w'=>w'.heap[nb]? = some (.cells #[.string NM,.bool an,.slice oa om oc,.string TX] 113 (0,0))/\w'.cell? ⟨mb,5,none⟩=some (.slice na k nc)) 10 (by kernel_rfl) ?_
     rw [<- HWD.out]
     clear HWD
     refine yR 0 86 hS0 ?_
     refine yR 1 87 hS0 ?_
     refine yR 2 88 hS0 ?_
     refine yR 3 89 hS0 ?_
     refine yR 4 90 hS0 ?_
     refine wpAnyT_take 5 (some 91) (.agg #[.string NM,.bool an,.slice oa om oc,.string TX]) rfl rfl (by kernel_rfl) (fun _ _ _ h=>h) hS0 (Or.inl ⟨by rfl,?_⟩) ?_
     ·(intro w' hSw;obtain ⟨q0,q1⟩:=hSw;exact yloadR (load_need q0) (.tmp 13) rfl rfl)
     simp only [Act.put,yB,yC,yD]
     refine wpAnyT_one 6 rfl (by kernel_rfl) rfl ?_
     intro K hK
     go_simp
     show K _ _
     have hS1:=HS2.out (wD.alloc (.cells #[.string NM,.bool an,.slice oa om oc,.string TX] 113)) ((Mod.refl No wD).alloc _)
     refine hK.out _ _ (fun _=>hS1) ?_
     clear hK K
     refine wpAnyT_one 7 rfl (by kernel_rfl) rfl ?_
     intro K hK
     refine wp_app_atN (.tmp 90) (.tmp 92) 102 rfl B 113 i1 _ 4 64 underlying102 hi0 hz0 hz1 hz2 rfl (by decide) (.slice na k nc) k (ys.flatMap NdX.cells) rfl (own_keepM HYO.out ((Mod.refl No wD).alloc _) (fun _ _ f=>f)) ⟨wD.heap.size,0,none⟩ 1 1 [.string NM,.bool an,.slice oa om oc,.string TX] rfl rfl (fun j u hu=>cells_newN hu) (by simp [Value.oneCell']) (by unfold maxLen;omega) (by omega) (by simp;omega) ?_
     intro nv' w7 hown hgr hat
     obtain ⟨v2a,v2c,hv2⟩:=(Sl.of_own (X:=No) hown (fun _ _ f=>f)).len
     subst hv2
     have HOWN:=zh hown
     have HGR:=zh hgr
     clear hown hgr hat
     show K _ _
     have hS2:=HS3.out w7 HGR.out
     refine hK.out _ _ (fun _=>hS2) ?_
     clear hK K
     refine wpAnyT_takeC [9,10] 8 (some 94) ?_ rfl rfl (by kernel_rfl) (fun _ _ _ h=>h) hS2 (Or.inl ⟨by rfl,?_⟩) ?_
     rotate_left
     ·(intro w' hSw;obtain ⟨q0,q1⟩:=hSw;go_simp;try with_reducible rfl)
     simp only [Act.put,List.setIfInBounds_toArray]
     refine wpAnyT_take 9 (some 95) ?_ rfl rfl (by kernel_rfl) (fun _ _ _ h=>h) hS2 (Or.inl ⟨by rfl,?_⟩) ?_
     rotate_left
     ·(intro w' hSw;obtain ⟨q0,q1⟩:=hSw;go_simp;try with_reducible rfl)
     simp only [Act.put]
     refine wpAnyT_one 10 rfl (by kernel_rfl) rfl ?_
     intro K hK
     have c38:=hS2.2
     have f38:=HFZ.out _ HGR.out
     go_simp
     show K _ _
     refine hK.out _ _ (fun h=>absurd rfl h) ?_
     clear hK K
     refine wpAnyT_done (by kernel_rfl) ?_ _
     have hma:Mod No wD (wD.alloc (.cells #[.string NM,.bool an,.slice oa om oc,.string TX] 113)):=(Mod.refl No wD).alloc _
     obtain ⟨hW,hMW⟩:=MfW.want (n:=x) (nv':=.slice v2a (k+1) v2c) (ov:=.slice oa om oc) (HWD2.out.no hma) HMB0.out (HOR.out.keep (HM3D.out.trans hma) (Apart.no _ _)) (by rw [<- HKK.out];omega) HGR.out (by rw [<- HKK.out,HNC.out];exact HOWN.out)
     have HE:=zh (show MlRes (w7.setCell ⟨mb,5,none⟩ (.slice v2a (k+1) v2c)) B mb n m s (.returned (.bool true)) from ⟨true,rfl,_,_,_,_,HGOOD.out h20,hW⟩)
     have HMW:=zh ((HM3.out.no (S:=fun k=>k=mb\/B<=k)).trans (HM3D.out.no.trans (hma.no.trans hMW)))
     clear hW hMW hma hi0 hz0 hz1 hz2
     go_wp2_with fail
     exact fin hR ⟨HE.out,HMW.out⟩
end Go.Proofs.YtmppeipgjcjdkaaGreatDoor
