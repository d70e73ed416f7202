/-
  Layers 0 to 14: helps of the laws of indexes. No statement is proved here; no condition.
-/
import Derived.Test.YtgiigemfbebcgaaGreatDoorT01
import Derived.Test.YtgiigemfbebcgaaGreatDoorT12
import Derived.Test.YtgiigemfbebcgaaGreatDoorT07
import Derived.Test.YtgiigemfbebcgaaGreatDoorT20
import Derived.Test.YtgiigemfbebcgaaGreatDoorT09
namespace Go.Proofs.YtgiigemfbebcgaaGreatDoor
open _root_.Go.Proofs.Tryz
open Go.RowKit Go.Sort
theorem info_nd:(prog.info? 81).map (fun i=>(i.zero,i.size,i.bytes))=some (some (.agg #[.string ⟨#[]⟩,.bool false,.slice none 0 0,.string ⟨#[]⟩]),4,64):=by kernel_rfl
theorem flat_takeN {α:Type} {f:α->List Value} {wd:Nat} (hf:∀ x,(f x).length=wd) (L:List α) (k:Nat):(L.take k).flatMap f=(L.flatMap f).take (k*wd):=by
 induction L generalizing k with
 | nil=>simp
 | cons x L ih =>
  cases k with
  | zero=>simp
  | succ k =>
   rw [List.take_succ_cons,List.flatMap_cons,List.flatMap_cons,ih,Nat.succ_mul,List.take_append,hf,Nat.add_sub_cancel,List.take_of_length_le (l:=f x) (by rw [hf];omega)]
theorem flat_dropN {α:Type} {f:α->List Value} {wd:Nat} (hf:∀ x,(f x).length=wd) (L:List α) (k:Nat):(L.drop k).flatMap f=(L.flatMap f).drop (k*wd):=by
 induction L generalizing k with
 | nil=>simp
 | cons x L ih =>
  cases k with
  | zero=>simp
  | succ k =>
   rw [List.drop_succ_cons,List.flatMap_cons,ih,Nat.succ_mul,List.drop_append,hf,Nat.add_sub_cancel,List.drop_of_length_le (l:=f x) (by rw [hf];omega),List.nil_append]
theorem nd_head (g o n c k:Nat) (hk:k<=n) (hn:n<=c) (W:World):(Instr.sliceAt 44 (.slice (some ⟨g,o,none⟩) n c) none (some (.int .i64 (k:Int))) (some (.int .i64 (k:Int)))).run prog W=.ok (.slice (some ⟨g,o,none⟩) k k) W:=by
 have h1:(0:Int)<=(k:Int):=Int.natCast_nonneg _
 have h2:(k:Int)<=(c:Int):=by omega
 go_simp
theorem nd_tail (g o n c k:Nat) (hk:k<=n) (hn:n<=c) (W:World):(Instr.sliceAt 44 (.slice (some ⟨g,o,none⟩) n c) (some (.int .i64 (k:Int))) none none).run prog W=.ok (.slice (some ⟨g,if c=k then o else o+k*4,none⟩) (n - k) (c - k)) W:=by
 have h1:(0:Int)<=(k:Int):=Int.natCast_nonneg _
 have h2:(k:Int)<=(n:Int):=by omega
 have h3:(n:Int)<=(c:Int):=by omega
 go_simp
 split <;> rfl
theorem nd_nil (W:World):(Instr.sliceAt 44 (.slice none 0 0) none (some (.int .i64 ((0:Nat):Int))) (some (.int .i64 ((0:Nat):Int)))).run prog W=.ok (.slice none 0 0) W/\(Instr.sliceAt 44 (.slice none 0 0) (some (.int .i64 ((0:Nat):Int))) none none).run prog W=.ok (.slice none 0 0) W:=⟨by go_simp,by go_simp⟩
theorem nd_parts {w:World} {v:Value} {n:Nat} {xs:List Value} (h:Sl w No 81 v n xs) (hx:xs.length=n*4) {k:Nat} (hk:k<=n) :
  ∃ sv tv,(∀ W:World,(Instr.sliceAt 44 v none (some (.int .i64 (k:Int))) (some (.int .i64 (k:Int)))).run prog W=.ok sv W)/\(∀ W:World,(Instr.sliceAt 44 v (some (.int .i64 (k:Int))) none none).run prog W=.ok tv W) ∧
   ((sv=.slice none 0 0/\k=0/\xs.take (k*4)=[])\/∃ a0,sv=.slice (some a0) k k/\(xs.take (k*4)).length=k*4/\∀ j u,(xs.take (k*4))[j]? = some u->w.cell? (a0.add j)=some u) ∧
   Sl w No 81 tv (n - k) (xs.drop (k*4))/\(xs.drop (k*4)).length=(n - k)*4:=by
 have hld:(xs.drop (k*4)).length=(n - k)*4:=by rw [List.length_drop,hx];omega
 rcases h with ⟨rfl,rfl,rfl⟩ | ⟨g,o,c,cur,fz,rfl,hn,hc,hX,hh,hl,hr⟩
 ·obtain rfl:k=0:=by omega
  exact ⟨.slice none 0 0,.slice none 0 0,fun W=>(nd_nil W).1,fun W=>(nd_nil W).2,.inl ⟨rfl,rfl,rfl⟩,.inl ⟨rfl,rfl,rfl⟩,hld⟩
 ·refine ⟨_,_,nd_head g o n c k hk hn,nd_tail g o n c k hk hn,.inr ⟨_,rfl,by rw [List.length_take,hx];omega,fun j u e=>?_⟩,.inr ⟨g,if c=k then o else o+k*4,c - k,cur,fz,rfl,by omega,by omega,fun f=>f,hh,?_,fun i hi=>?_⟩,hld⟩
  ·have hj:=(List.getElem?_eq_some_iff.1 e).1
   rw [List.length_take] at hj
   rw [List.getElem?_take,if_pos (by omega)] at e
   rw [Addr.add_mid]
   exact cell_ofA hh ((hr j (by omega)).trans e)
  ·rw [hld]
   split
   ·have:n - k=0:=by omega
    rw [this];omega
   ·omega
  ·rw [hld] at hi
   rw [if_neg (by intro e;have:n - k=0:=(by omega);rw [this] at hi;omega),List.getElem?_drop,<- hr (k*4+i) (by omega),Nat.add_assoc]
set_option maxRecDepth 100000 in
theorem nd_new {w:World} {cs:List Value} {o:Oper} {ρ:Operand->Value} (hc:cs.length=4) (x:Operand) (ho:o.op=.buildSlice 44 1 #[(0,x)]) (hx:ρ x=.agg cs.toArray) :
  (execOp ρ o).run prog w=.ok (.value (.slice (some ⟨w.heap.size,0,none⟩) 1 1)) (w.alloc (.cells cs.toArray 81)):=by
 obtain ⟨i0,hi,hz0,hz1,hz2⟩:=info_parts info_nd
 have h:=run_buildSlice (P:=prog) w 44 81 1 #[(0,.agg cs.toArray)] cs.toArray i0 _ underlying44 hi hz0 (by rw [hz1];omega) (by rw [hz1];omega) (by
  rw [hz1]
  have h2:=Great.fill_whole (s:=4) (by decide) [Value.agg cs.toArray] ((Array.range (1*4)).map ((Value.agg #[.string ⟨#[]⟩,.bool false,.slice none 0 0,.string ⟨#[]⟩]).cells[· % (Value.agg #[.string ⟨#[]⟩,.bool false,.slice none 0 0,.string ⟨#[]⟩]).cells.size]!)) (fun v hv=>by
   simp at hv
   subst hv
   show cs.toArray.size=4
   simp [hc]) (by simp)
  have h3:[Value.agg cs.toArray].flatMap (fun v=>v.cells.toList)=cs:=by
   show cs.toArray.toList++[]=cs
   simp
  rw [h3] at h2
  exact h2)
 unfold execOp
 simp only [ho,List.map_toArray,List.map_cons,List.map_nil,hx,Sem.run_bind]
 erw [h]
 rfl
def ltNx (x y:NdX):Bool:=decide (x.n.name < y.n.name)
set_option maxRecDepth 100000 in
set_option maxHeartbeats 8000000 in
theorem sorted_any (L:List NdX) (hL:L.length<=1000000) (v:Value) (w:World) (hv:Sl w No 81 v L.length (L.flatMap NdX.cells)) (hov:∀ y ∈ L,∃ oa om oc,y.ov=.slice oa om oc) :
  Calls prog 69 #[v] w fun e w'=>∃ v',e=.returned v'/\w'.ownsRow w.heap.size 81 4 v' L.length ((sortR ltNx L).flatMap NdX.cells)/\Mod No w w':=by
 refine calls_hide fun R hR=>?_
 have HV:=zh hv
 have HX1:=zh (show ∀ y ∈ L,(NdX.cells y).length=4 from fun y _=>NdX.cells_length y)
 have H1L:=zh (show ∀ S:List NdX,(∀ y ∈ S,y ∈ L)->∀ u ∈ S.flatMap NdX.cells,u.oneCell'=true from fun S hS u hu=>by
  obtain ⟨y,hy,hu⟩:=List.mem_flatMap.1 hu
  obtain ⟨oa,om,oc,e⟩:=hov y (hS y hy)
  unfold NdX.cells at hu
  rw [e] at hu
  simp only [List.mem_cons,List.not_mem_nil,or_false] at hu
  rcases hu with rfl | rfl | rfl | rfl <;> rfl)
 obtain ⟨va,vc,rfl⟩:=hv.len
 obtain ⟨n,hn⟩:∃ n,n=L.length:=⟨_,rfl⟩
 have HNL:=zh hn
 have HRE:=zh (show ∀ w' v',w'.ownsRow w.heap.size 81 4 v' n ((sortR ltNx (L.take n)).flatMap NdX.cells)->Mod No w w'->R (.returned v') w' from fun w' v' h1 h2=>fin hR ⟨v',rfl,by rw [hn,List.take_length] at h1;exact h1,h2⟩)
 rw [<- hn] at HV
 rw [<- hn]
 have hn2:n<=1000000:=by omega
 obtain ⟨i0,hi0,hz0,hz1,hz2⟩:=info_parts info_nd
 have HI:=zh (And.intro hi0 (And.intro hz0 (And.intro hz1 hz2)))
 clear hi0 hz0 hz1 hz2 hv hov hn hL hR
 go_enter func69,ntmps69
 go_wp2_with fail
 go_loopw [3,4] (fun q3 q4 wr=>∃ (k:Nat) (v:Value),k<=n/\q4=.int .i64 (k:Int)/\q3=v/\wr.ownsRow w.heap.size 81 4 v k ((sortR ltNx (L.take k)).flatMap NdX.cells)/\Mod No w wr) (fun _ q _=>n - (intOf q).toNat)
 case atStart=>exact ⟨0,.slice none 0 0,by omega,rfl,rfl,⟨by simp [sortR],.inl ⟨rfl,rfl⟩⟩,Mod.refl _ _⟩
 case round =>
  obtain ⟨k,v,hk,rfl,rfl,hown,hm⟩:=hrel
  have HM:=zh hm
  have HO:=zh hown
  have hk0:(0:Int)<=(k:Int):=Int.natCast_nonneg _
  obtain ⟨sa,sc,hsv⟩:=own_len hown
  subst hsv
  clear hm hown
  by_cases hlt:k < n
  ·have hk1:(k:Int) < (n:Int):=by omega
   have hlt2:k < L.length:=by rw [<- HNL.out];exact hlt
   obtain ⟨b,o,c,hvs,_⟩:=HV.out.shape (by omega)
   cases hvs
   have HRG0:=zh (Sl.atM HX1.out HV.out hlt2)
   have HST:=zh (sortR_take ltNx L hlt2)
   have HMX:=zh (show ∀ y ∈ sortR ltNx (L.take k),y ∈ L from fun y hy=>List.mem_of_mem_take ((sortR_mem _ _ _).1 hy))
   have hsl:(sortR ltNx (L.take k)).length=k:=by rw [sortR_length,List.length_take];omega
   have HXI:=zh (List.getElem_mem hlt2)
   generalize sortR ltNx (L.take k)=S at *
   generalize L[k]=x at *
   go_wp2_with fail
   have HFS:=zh (show (S.flatMap NdX.cells).length=k*4 from HO.out.1)
   have HC:=zh (HX1.out x HXI.out)
   have H1X:=zh (H1L.out [x] (fun y hy=>by rw [List.mem_singleton.1 hy];exact HXI.out))
   obtain ⟨cx,hcx⟩:∃ cx,cx=NdX.cells x:=⟨_,rfl⟩
   have HXC:=zh (show NdX.cells x=cx from hcx.symm)
   rw [<- hcx] at HC HRG0
   clear hcx
   have HNM:=zh (show ∀ w',Mod No w w'->w'.cell? ⟨b,o+k*4,none⟩=some (strV x.n.name) from fun w' h=>by
    have h2:=(h.rangeAt HRG0.out (fun f=>f)) 0 (strV x.n.name) (by rw [<- HXC.out];rfl)
    rw [Nat.add_zero] at h2
    exact h2)
   generalize wr=wo at *
   go_loopw [5] (fun q wi=>∃ j:Nat,j<=k/\q=.int .i64 (j:Int)/\Mod No wo wi/\∀ i (hi:i < S.length),j<=i->x.n.name < S[i].n.name) (fun q _=>(intOf q).toNat)
   case atStart=>exact ⟨k,by omega,rfl,Mod.refl _ _,fun i hi h=>absurd hi (by omega)⟩
   case round =>
    obtain ⟨j,hj,rfl,hmi,hgt⟩:=hrel
    have HMI:=zh hmi
    have HGT:=zh hgt
    have hj0:(0:Int)<=(j:Int):=Int.natCast_nonneg _
    have HBB:=zh (show ∀ y ∈ S.drop j,ltNx x y=true from fun y hy=>by
     obtain ⟨i,hi,rfl⟩:=List.getElem_of_mem hy
     rw [List.getElem_drop]
     exact decide_eq_true (HGT.out (j+i) (by rw [List.length_drop] at hi;omega) (by omega)))
    clear hmi hgt
    rcases j with _ | m
    ·have hkn:decide ((0:Int) < 0)=false:=by decide
     have hkn2:decide ((0:Nat) < 0)=false:=by decide
     have HAA:=zh (show S.take 0=[]\/∃ C z,S.take 0=C++[z]/\ltNx x z=false from .inl rfl)
     go_upto_region 6 with fail
     go_quiet (fail)
     generalize hw3:World.drewN wr _=w3
     have HM3:=zh (show Mod No wo w3 by rw [<- hw3];exact HMI.out.drewN _)
     clear hw3 hkn hkn2
     have HIS:=zh (insR_scan (p:=ltNx x) (x:=x) (A:=S.take (0)) (B:=S.drop (0)) HBB.out HAA.out)
     rw [List.take_append_drop] at HIS
     obtain ⟨sv,tv,hsv,htv,hsc,hts,hld⟩:=nd_parts (k:=0) (Sl.of_own (X:=No) (own_keepM HO.out (HM3.out.drew) (fun _ _ f=>f)) (fun _ _ f=>f)) HFS.out (by omega)
     have HSV:=zh hsv
     have HTV:=zh htv
     obtain ⟨hi0,hz0,hz1,hz2⟩:=HI.out
     have HFX:=zh (show (S.flatMap NdX.cells).take ((0)*4)++(cx++(S.flatMap NdX.cells).drop ((0)*4))=(sortR ltNx (L.take (k+1))).flatMap NdX.cells by
      rw [HST.out,HIS.out,List.flatMap_append,List.flatMap_cons,flat_takeM (fun y hy=>HX1.out y (HMX.out y hy)),flat_dropM (fun y hy=>HX1.out y (HMX.out y hy)),HXC.out])
     obtain ⟨wD,hwD⟩:∃ y,y=w3.drew:=⟨_,rfl⟩
     rw [<- hwD] at hsc hts
     have HSC:=zh hsc
     have HTS:=zh hts
     have HLD:=zh hld
     have H1D:=zh (show ∀ u ∈ (S.flatMap NdX.cells).drop ((0)*4),u.oneCell'=true from fun u hu=>H1L.out S HMX.out u (List.mem_of_mem_drop hu))
     have HMD:=zh (show Mod No w wD by rw [hwD];exact HM.out.trans HM3.out.drew)
     have HRG:=zh (show ∀ w',Mod No wD w'->w'.rangeAt b (o+k*4) cx from fun w' h=>(HMD.out.trans h).rangeAt HRG0.out (fun f=>f))
     have HBD:=zh HMD.out.size
     have HWD:=zh hwD
     have hS0:=Mod.refl No wD
     generalize hXS:S.flatMap NdX.cells=XS at *
     clear hsv htv hsc hts hld hwD hXS
     go_upto_region 8 with fail
     refine wp_region_T (fun w'=>Mod No wD w') 99 (by kernel_rfl) ?_
     rw [<- HWD.out]
     refine yT 0 (some 32) ?_ hS0 ?_ ?_
     rotate_left
     ·(intro w' hSw;go_simp;try with_reducible rfl)
     simp only [Act.put,yB,yC,yD]
     refine yT 1 (some 33) ?_ hS0 ?_ ?_
     rotate_left
     ·(intro w' hSw;go_simp;try with_reducible rfl)
     simp only [Act.put,yB,yC,yD]
     refine yT 2 (some 34) ?_ hS0 ?_ ?_
     rotate_left
     ·(intro w' hSw;go_simp;try with_reducible rfl)
     simp only [Act.put,yB,yC,yD]
     refine yT 3 (some 35) sv hS0 ?_ ?_
     ·(intro w' hSw;apply yslice3 (HSV.out w') (.tmp 32) (.tmp 33) (.tmp 34) <;> rfl)
     simp only [Act.put,yB,yC,yD]
     refine yT 4 (some 36) ?_ hS0 ?_ ?_
     rotate_left
     ·(intro w' hSw;go_simp;try with_reducible rfl)
     simp only [Act.put,yB,yC,yD]
     refine yT 5 (some 37) ?_ hS0 ?_ ?_
     rotate_left
     ·(intro w' hSw;go_simp;try with_reducible rfl)
     simp only [Act.put,yB,yC,yD]
     refine yT 6 (some 38) ?_ hS0 ?_ ?_
     rotate_left
     ·(intro w' hSw;go_simp;try with_reducible rfl)
     simp only [Act.put,yB,yC,yD]
     refine yT 7 (some 39) (.agg cx.toArray) hS0 ?_ ?_
     ·(intro w' hSw;apply yloadv (run_loadVar_mid w' b (o+k*4) 81 cx _ (HRG.out w' hSw) underlying81 rfl (by rw [HC.out];kernel_rfl)) (.tmp 38) <;> rfl)
     simp only [Act.put,yB,yC,yD]
     refine yT 9 (some 41) ?_ hS0 ?_ ?_
     rotate_left
     ·(intro w' hSw;go_simp;try with_reducible rfl)
     simp only [Act.put,yB,yC,yD]
     refine yT 10 (some 42) ?_ hS0 ?_ ?_
     rotate_left
     ·(intro w' hSw;go_simp;try with_reducible rfl)
     simp only [Act.put,yB,yC,yD]
     refine yT 11 (some 43) tv hS0 ?_ ?_
     ·(intro w' hSw;apply yslice1 (HTV.out w') (.tmp 41) (.tmp 42) <;> rfl)
     simp only [Act.put,yB,yC,yD]
     refine wpAnyT_one 8 rfl (by kernel_rfl) rfl ?_
     intro K hK
     obtain ⟨ga,hga⟩:∃ ga,ga=wD.heap.size:=⟨_,rfl⟩
     obtain ⟨wD_8,hwD_8⟩:∃ y,y=wD.alloc (.cells cx.toArray 81):=⟨_,rfl⟩
     have HGA:=zh (show wD_8.heap[ga]? = some (.cells cx.toArray 81 (0,0)) by rw [hwD_8,hga];exact heap_alloc_new _ _)
     have hmwD_8:Mod No wD wD_8:=by rw [hwD_8];exact (Mod.refl No _).alloc _
     have HGL:=zh (show wD.heap.size<=ga by omega)
     refine wp_value (v:=.slice (some ⟨ga,0,none⟩) 1 1) (w':=wD_8) (by rw [hga,hwD_8];apply nd_new HC.out (.tmp 39) <;> rfl) ?_
     clear hwD_8 hga
     show K (Act.put _ (some 40) _) _
     have hS1:=hS0.trans hmwD_8
     refine hK.out _ _ (fun _=>hS1) ?_
     clear hK K
     refine wpAnyT_one 12 rfl (by kernel_rfl) rfl ?_
     intro K hK
     refine wp_app_sl wD_8 (.tmp 40) (.tmp 43) 44 (by rfl) ga 81 i0 _ 4 64 underlying44 hi0 hz0 hz1 hz2 rfl (by decide) (.slice (some ⟨ga,0,none⟩) 1 1) 1 cx (by rfl) ⟨by rw [HC.out],.inr ⟨ga,1,_,rfl,Nat.le_refl _,HGA.out,Nat.le_refl _,by unfold maxLen;omega,by simp [HC.out],by rw [List.toList_toArray,List.take_of_length_le (by rw [HC.out];decide)]⟩⟩ No 81 tv (k - 0) (XS.drop (0*4)) (by rfl) (HTS.out.kn hS1) HLD.out H1D.out (by unfold maxLen;omega) (by omega) (Nat.le_of_lt (lt_of_heap HGA.out)) ?_
     intro v6 w6 hown hg6 _
     obtain ⟨g6,c6,rfl,hg6a⟩:=own_shape hown (by omega)
     have HO6:=zh hown
     have hm6:Mod No wD w6:=hS1.then (Mod.of_grown (S:=fun q=>q=ga) hg6 (fun q e _=>by cases e;rfl)) (fun q hq e=>by have e:q=ga:=e;have h1:=HGL.out;omega)
     have HB6:=zh (show w.heap.size<=w6.heap.size from Nat.le_trans HBD.out hm6.size)
     clear hown hg6
     show K (Act.put _ (some 44) _) _
     have hS2:=hm6
     refine hK.out _ _ (fun _=>hS2) ?_
     clear hK K
     refine wpAnyT_one 13 rfl (by kernel_rfl) rfl ?_
     intro K hK
     refine wp_app_full w6 (.tmp 35) (.tmp 44) 44 (by rfl) w.heap.size 81 i0 _ 4 64 underlying44 hi0 hz0 hz1 hz2 rfl sv 0 (XS.take (0*4)) (by rfl) (by
      rcases HSC.out with h | ⟨a0,h1,h2,h3⟩
      ·exact .inl h
      ·exact .inr ⟨a0,h1,h2,fun j u e=>hS2.cell (h3 j u e) (fun f=>f)⟩) ⟨g6,0,none⟩ (1+(k - 0)) c6 (cx++XS.drop (0*4)) (by rfl) (by omega) HO6.out.1 (fun j u e=>HO6.out.cells (g:=g6) rfl j u e) (by unfold maxLen;omega) (by omega) HB6.out ?_
     intro v7 w7 hown7 hm7
     have HO7:=zh hown7
     clear hown7
     show K (Act.put _ (some 45) _) _
     have hS3:=hS2.trans hm7
     refine hK.out _ _ (fun _=>hS3) ?_
     clear hK K
     refine yT 14 (some 3) ?_ hS3 ?_ ?_
     rotate_left
     ·(intro w' hSw;go_simp;try with_reducible rfl)
     simp only [Act.put]
     refine wpAnyT_done (by kernel_rfl) ?_ _
     have HMF:=zh hS3
     clear hS0 hS1 hS2 hS3
     go_wp2_with fail
     refine ⟨⟨k+1,v7,by omega,rfl,rfl,?_,HMD.out.trans HMF.out⟩,by show n - ((k:Int)+1).toNat < n - (k:Int).toNat;omega⟩
     have h9:=HO7.out
     rw [HFX.out,show (0)+(1+(k - (0)))=k+1 by omega] at h9
     exact h9
    ·have hms:m < S.length:=by omega
     have hc2:=HNM.out wr (HM.out.trans HMI.out)
     obtain ⟨gs,cs,hvs,hgb⟩:=own_shape HO.out (by omega)
     cases hvs
     have hc1:=(Sl.of_own (X:=No) (own_keepM HO.out HMI.out (fun _ _ f=>f)) (fun _ _ f=>f))
     have hc3:=Sl.atM (fun y hy=>HX1.out y (HMX.out y hy)) hc1 hms 0 (strV S[m].n.name) rfl
     rw [Nat.add_zero,Nat.zero_add] at hc3
     have hkn:decide ((0:Int) < ((m+1:Nat):Int))=true:=decide_eq_true (by omega)
     have hkn2:decide (0 < m+1)=true:=decide_eq_true (by omega)
     have hT1:=str_list x.n.name
     have hT2:=str_list S[m].n.name
     have HEQ:=zh (show x.n.name < S[m].n.name->∀ i (hi:i < S.length),m<=i->x.n.name < S[i].n.name from fun h i hi him=>by
      rcases Nat.lt_or_ge m i with h3 | h3
      ·exact HGT.out i hi (by omega)
      ·obtain rfl:i=m:=by omega
       exact h)
     by_cases hlt3:x.n.name < S[m].n.name
     ·have hbl:Op.bytesLess (⟨S[m].n.name.toArray⟩:ByteArray).toList (⟨x.n.name.toArray⟩:ByteArray).toList=false:=by rw [hT1,hT2,bytesLess_decT];exact decide_eq_false (fun h=>List.lt_asymm h hlt3)
      have hbe:((⟨S[m].n.name.toArray⟩:ByteArray).toList == (⟨x.n.name.toArray⟩:ByteArray).toList)=false:=by
       rw [hT1,hT2]
       rcases hb:(S[m].n.name == x.n.name) with _ | _
       ·rfl
       ·have:=eq_of_beq hb
        rw [this] at hlt3
        exact absurd hlt3 (List.lt_irrefl _)
      have HN:=zh (HEQ.out hlt3)
      unfold strV at *
      generalize (⟨x.n.name.toArray⟩:ByteArray)=X1 at *
      generalize (⟨S[m].n.name.toArray⟩:ByteArray)=X2 at *
      clear hT1 hT2 HEQ hlt3
      go_upto_region 6 with fail
      go_quiet (fail)
      generalize hw3:World.drewN wr _=w3
      have HM3:=zh (show Mod No wo w3 by rw [<- hw3];exact HMI.out.drewN _)
      clear hw3 hkn hkn2 hc2 hc3
      go_wp2_with fail
      exact ⟨⟨m,by omega,rfl,HM3.out,HN.out⟩,by show (m:Int).toNat < ((m+1:Nat):Int).toNat;omega⟩
     ·have hor:Op.bytesLess (⟨S[m].n.name.toArray⟩:ByteArray).toList (⟨x.n.name.toArray⟩:ByteArray).toList=true\/((⟨S[m].n.name.toArray⟩:ByteArray).toList == (⟨x.n.name.toArray⟩:ByteArray).toList)=true:=by
       rw [hT1,hT2,bytesLess_decT]
       by_cases h5:x.n.name=S[m].n.name
       ·right;rw [h5];simp
       ·left;exact decide_eq_true (text_gt hlt3 h5)
      have HOR:=zh hor
      clear hor
      have HAA:=zh (show S.take (m+1)=[]\/∃ C z,S.take (m+1)=C++[z]/\ltNx x z=false from .inr ⟨S.take m,S[m],List.take_succ_eq_append_getElem hms,decide_eq_false hlt3⟩)
      unfold strV at *
      generalize (⟨x.n.name.toArray⟩:ByteArray)=X1 at *
      generalize (⟨S[m].n.name.toArray⟩:ByteArray)=X2 at *
      clear hT1 hT2 HEQ hlt3
      go_upto_region 6 with fail
      go_quiet (fail)
      generalize hw3:World.drewN wr _=w3
      have HM3:=zh (show Mod No wo w3 by rw [<- hw3];exact HMI.out.drewN _)
      clear hw3 hkn hkn2 hc2 hc3
      have HIS:=zh (insR_scan (p:=ltNx x) (x:=x) (A:=S.take (m+1)) (B:=S.drop (m+1)) HBB.out HAA.out)
      rw [List.take_append_drop] at HIS
      obtain ⟨sv,tv,hsv,htv,hsc,hts,hld⟩:=nd_parts (k:=m+1) (Sl.of_own (X:=No) (own_keepM HO.out (HM3.out.drew) (fun _ _ f=>f)) (fun _ _ f=>f)) HFS.out (by omega)
      have HSV:=zh hsv
      have HTV:=zh htv
      obtain ⟨hi0,hz0,hz1,hz2⟩:=HI.out
      have HFX:=zh (show (S.flatMap NdX.cells).take ((m+1)*4)++(cx++(S.flatMap NdX.cells).drop ((m+1)*4))=(sortR ltNx (L.take (k+1))).flatMap NdX.cells by
       rw [HST.out,HIS.out,List.flatMap_append,List.flatMap_cons,flat_takeM (fun y hy=>HX1.out y (HMX.out y hy)),flat_dropM (fun y hy=>HX1.out y (HMX.out y hy)),HXC.out])
      obtain ⟨wD,hwD⟩:∃ y,y=w3.drew:=⟨_,rfl⟩
      rw [<- hwD] at hsc hts
      have HSC:=zh hsc
      have HTS:=zh hts
      have HLD:=zh hld
      have H1D:=zh (show ∀ u ∈ (S.flatMap NdX.cells).drop ((m+1)*4),u.oneCell'=true from fun u hu=>H1L.out S HMX.out u (List.mem_of_mem_drop hu))
      have HMD:=zh (show Mod No w wD by rw [hwD];exact HM.out.trans HM3.out.drew)
      have HRG:=zh (show ∀ w',Mod No wD w'->w'.rangeAt b (o+k*4) cx from fun w' h=>(HMD.out.trans h).rangeAt HRG0.out (fun f=>f))
      have HBD:=zh HMD.out.size
      have HWD:=zh hwD
      have hS0:=Mod.refl No wD
      generalize hXS:S.flatMap NdX.cells=XS at *
      clear hsv htv hsc hts hld hwD hXS
      go_upto_region 8 with fail
      ·exfalso
       rename_i h9
       rcases HOR.out with e | e
       ·exact absurd h9.1 (by rw [e];decide)
       ·exact absurd h9.2 (by rw [e];decide)
      refine wp_region_T (fun w'=>Mod No wD w') 99 (by kernel_rfl) ?_
      rw [<- HWD.out]
      refine yT 0 (some 32) ?_ hS0 ?_ ?_
      rotate_left
      ·(intro w' hSw;go_simp;try with_reducible rfl)
      simp only [Act.put,yB,yC,yD]
      refine yT 1 (some 33) ?_ hS0 ?_ ?_
      rotate_left
      ·(intro w' hSw;go_simp;try with_reducible rfl)
      simp only [Act.put,yB,yC,yD]
      refine yT 2 (some 34) ?_ hS0 ?_ ?_
      rotate_left
      ·(intro w' hSw;go_simp;try with_reducible rfl)
      simp only [Act.put,yB,yC,yD]
      refine yT 3 (some 35) sv hS0 ?_ ?_
      ·(intro w' hSw;apply yslice3 (HSV.out w') (.tmp 32) (.tmp 33) (.tmp 34) <;> rfl)
      simp only [Act.put,yB,yC,yD]
      refine yT 4 (some 36) ?_ hS0 ?_ ?_
      rotate_left
      ·(intro w' hSw;go_simp;try with_reducible rfl)
      simp only [Act.put,yB,yC,yD]
      refine yT 5 (some 37) ?_ hS0 ?_ ?_
      rotate_left
      ·(intro w' hSw;go_simp;try with_reducible rfl)
      simp only [Act.put,yB,yC,yD]
      refine yT 6 (some 38) ?_ hS0 ?_ ?_
      rotate_left
      ·(intro w' hSw;go_simp;try with_reducible rfl)
      simp only [Act.put,yB,yC,yD]
      refine yT 7 (some 39) (.agg cx.toArray) hS0 ?_ ?_
      ·(intro w' hSw;apply yloadv (run_loadVar_mid w' b (o+k*4) 81 cx _ (HRG.out w' hSw) underlying81 rfl (by rw [HC.out];kernel_rfl)) (.tmp 38) <;> rfl)
      simp only [Act.put,yB,yC,yD]
      refine yT 9 (some 41) ?_ hS0 ?_ ?_
      rotate_left
      ·(intro w' hSw;go_simp;try with_reducible rfl)
      simp only [Act.put,yB,yC,yD]
      refine yT 10 (some 42) ?_ hS0 ?_ ?_
      rotate_left
      ·(intro w' hSw;go_simp;try with_reducible rfl)
      simp only [Act.put,yB,yC,yD]
      refine yT 11 (some 43) tv hS0 ?_ ?_
      ·(intro w' hSw;apply yslice1 (HTV.out w') (.tmp 41) (.tmp 42) <;> rfl)
      simp only [Act.put,yB,yC,yD]
      refine wpAnyT_one 8 rfl (by kernel_rfl) rfl ?_
      intro K hK
      obtain ⟨ga,hga⟩:∃ ga,ga=wD.heap.size:=⟨_,rfl⟩
      obtain ⟨wD_8,hwD_8⟩:∃ y,y=wD.alloc (.cells cx.toArray 81):=⟨_,rfl⟩
      have HGA:=zh (show wD_8.heap[ga]? = some (.cells cx.toArray 81 (0,0)) by rw [hwD_8,hga];exact heap_alloc_new _ _)
      have hmwD_8:Mod No wD wD_8:=by rw [hwD_8];exact (Mod.refl No _).alloc _
      have HGL:=zh (show wD.heap.size<=ga by omega)
      refine wp_value (v:=.slice (some ⟨ga,0,none⟩) 1 1) (w':=wD_8) (by rw [hga,hwD_8];apply nd_new HC.out (.tmp 39) <;> rfl) ?_
      clear hwD_8 hga
      show K (Act.put _ (some 40) _) _
      have hS1:=hS0.trans hmwD_8
      refine hK.out _ _ (fun _=>hS1) ?_
      clear hK K
      refine wpAnyT_one 12 rfl (by kernel_rfl) rfl ?_
      intro K hK
      refine wp_app_sl wD_8 (.tmp 40) (.tmp 43) 44 (by rfl) ga 81 i0 _ 4 64 underlying44 hi0 hz0 hz1 hz2 rfl (by decide) (.slice (some ⟨ga,0,none⟩) 1 1) 1 cx (by rfl) ⟨by rw [HC.out],.inr ⟨ga,1,_,rfl,Nat.le_refl _,HGA.out,Nat.le_refl _,by unfold maxLen;omega,by simp [HC.out],by rw [List.toList_toArray,List.take_of_length_le (by rw [HC.out];decide)]⟩⟩ No 81 tv (k - (m+1)) (XS.drop ((m+1)*4)) (by rfl) (HTS.out.kn hS1) HLD.out H1D.out (by unfold maxLen;omega) (by omega) (Nat.le_of_lt (lt_of_heap HGA.out)) ?_
      intro v6 w6 hown hg6 _
      obtain ⟨g6,c6,rfl,hg6a⟩:=own_shape hown (by omega)
      have HO6:=zh hown
      have hm6:Mod No wD w6:=hS1.then (Mod.of_grown (S:=fun q=>q=ga) hg6 (fun q e _=>by cases e;rfl)) (fun q hq e=>by have e:q=ga:=e;have h1:=HGL.out;omega)
      have HB6:=zh (show w.heap.size<=w6.heap.size from Nat.le_trans HBD.out hm6.size)
      clear hown hg6
      show K (Act.put _ (some 44) _) _
      have hS2:=hm6
      refine hK.out _ _ (fun _=>hS2) ?_
      clear hK K
      refine wpAnyT_one 13 rfl (by kernel_rfl) rfl ?_
      intro K hK
      refine wp_app_full w6 (.tmp 35) (.tmp 44) 44 (by rfl) w.heap.size 81 i0 _ 4 64 underlying44 hi0 hz0 hz1 hz2 rfl sv (m+1) (XS.take ((m+1)*4)) (by rfl) (by
       rcases HSC.out with h | ⟨a0,h1,h2,h3⟩
       ·exact .inl h
       ·exact .inr ⟨a0,h1,h2,fun j u e=>hS2.cell (h3 j u e) (fun f=>f)⟩) ⟨g6,0,none⟩ (1+(k - (m+1))) c6 (cx++XS.drop ((m+1)*4)) (by rfl) (by omega) HO6.out.1 (fun j u e=>HO6.out.cells (g:=g6) rfl j u e) (by unfold maxLen;omega) (by omega) HB6.out ?_
      intro v7 w7 hown7 hm7
      have HO7:=zh hown7
      clear hown7
      show K (Act.put _ (some 45) _) _
      have hS3:=hS2.trans hm7
      refine hK.out _ _ (fun _=>hS3) ?_
      clear hK K
      refine yT 14 (some 3) ?_ hS3 ?_ ?_
      rotate_left
      ·(intro w' hSw;go_simp;try with_reducible rfl)
      simp only [Act.put]
      refine wpAnyT_done (by kernel_rfl) ?_ _
      have HMF:=zh hS3
      clear hS0 hS1 hS2 hS3
      go_wp2_with fail
      refine ⟨⟨k+1,v7,by omega,rfl,rfl,?_,HMD.out.trans HMF.out⟩,by show n - ((k:Int)+1).toNat < n - (k:Int).toNat;omega⟩
      have h9:=HO7.out
      rw [HFX.out,show ((m+1))+(1+(k - ((m+1))))=k+1 by omega] at h9
      exact h9
  ·obtain rfl:k=n:=by omega
   have hk1:¬ ((k:Int) < (k:Int)):=by omega
   go_wp2_with fail
   exact HRE.out _ _ HO.out HM.out
end Go.Proofs.YtgiigemfbebcgaaGreatDoor
