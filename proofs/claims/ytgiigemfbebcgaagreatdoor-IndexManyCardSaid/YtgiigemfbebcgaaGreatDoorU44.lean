/-
  Layers 0 to 14: helps of the laws of indexes. No statement is proved here; no condition.
-/
import Derived.Test.YtgiigemfbebcgaaGreatDoorU37
import Derived.Test.YtgiigemfbebcgaaGreatDoorU43
import Derived.Test.YtgiigemfbebcgaaGreatDoorU03
import Derived.Test.YtgiigemfbebcgaaGreatDoorU13
namespace Go.Proofs.YtgiigemfbebcgaaGreatDoor
open _root_.Go.Proofs.Tryz
open Go.RowKit Go.Sort
def ltPx (x y:PnX):Bool:=decide (x.p.name < y.p.name)
theorem pn_head (g o n c k:Nat) (hk:k<=n) (hn:n<=c) (W:World):(Instr.sliceAt 62 (.slice (some ⟨g,o,none⟩) n c) none (some (.int .i64 (k:Int))) (some (.int .i64 (k:Int)))).run prog W=.ok (.slice (some ⟨g,o,none⟩) k k) W:=by
 have h1:(0:Int)<=(k:Int):=Int.natCast_nonneg _
 have h2:(k:Int)<=(c:Int):=by omega
 go_simp
theorem pn_tail (g o n c k:Nat) (hk:k<=n) (hn:n<=c) (W:World):(Instr.sliceAt 62 (.slice (some ⟨g,o,none⟩) n c) (some (.int .i64 (k:Int))) none none).run prog W=.ok (.slice (some ⟨g,if c=k then o else o+k*37,none⟩) (n - k) (c - k)) W:=by
 have h1:(0:Int)<=(k:Int):=Int.natCast_nonneg _
 have h2:(k:Int)<=(n:Int):=by omega
 have h3:(n:Int)<=(c:Int):=by omega
 go_simp
 split <;> rfl
theorem pn_nil (W:World):(Instr.sliceAt 62 (.slice none 0 0) none (some (.int .i64 ((0:Nat):Int))) (some (.int .i64 ((0:Nat):Int)))).run prog W=.ok (.slice none 0 0) W/\(Instr.sliceAt 62 (.slice none 0 0) (some (.int .i64 ((0:Nat):Int))) none none).run prog W=.ok (.slice none 0 0) W:=⟨by go_simp,by go_simp⟩
theorem pn_parts {w:World} {v:Value} {n:Nat} {xs:List Value} (h:Sl w No 61 v n xs) (hx:xs.length=n*37) {k:Nat} (hk:k<=n) :
  ∃ sv tv,(∀ W:World,(Instr.sliceAt 62 v none (some (.int .i64 (k:Int))) (some (.int .i64 (k:Int)))).run prog W=.ok sv W)/\(∀ W:World,(Instr.sliceAt 62 v (some (.int .i64 (k:Int))) none none).run prog W=.ok tv W) ∧
   ((sv=.slice none 0 0/\k=0/\xs.take (k*37)=[])\/∃ a0,sv=.slice (some a0) k k/\(xs.take (k*37)).length=k*37/\∀ j u,(xs.take (k*37))[j]? = some u->w.cell? (a0.add j)=some u) ∧
   Sl w No 61 tv (n - k) (xs.drop (k*37))/\(xs.drop (k*37)).length=(n - k)*37:=by
 have hld:(xs.drop (k*37)).length=(n - k)*37:=by rw [List.length_drop,hx];omega
 rcases h with ⟨rfl,rfl,rfl⟩ | ⟨g,o,c,cur,fz,rfl,hn,hc,hX,hh,hl,hr⟩
 ·obtain rfl:k=0:=by omega
  exact ⟨.slice none 0 0,.slice none 0 0,fun W=>(pn_nil W).1,fun W=>(pn_nil W).2,.inl ⟨rfl,rfl,rfl⟩,.inl ⟨rfl,rfl,rfl⟩,hld⟩
 ·refine ⟨_,_,pn_head g o n c k hk hn,pn_tail g o n c k hk hn,.inr ⟨_,rfl,by rw [List.length_take,hx];omega,fun j u e=>?_⟩,.inr ⟨g,if c=k then o else o+k*37,c - k,cur,fz,rfl,by omega,by omega,fun f=>f,hh,?_,fun i hi=>?_⟩,hld⟩
  ·have hj:=(List.getElem?_eq_some_iff.1 e).1
   rw [List.length_take] at hj
   rw [List.getElem?_take,if_pos (by omega)] at e
   rw [Addr.add_mid]
   exact cell_ofA hh ((hr j (by omega)).trans e)
  ·rw [hld]
   split
   ·have:n - k=0:=by omega
    rw [this];omega
   ·omega
  ·rw [hld] at hi
   rw [if_neg (by intro e;have:n - k=0:=(by omega);rw [this] at hi;omega),List.getElem?_drop,<- hr (k*37+i) (by omega),Nat.add_assoc]
set_option maxRecDepth 100000 in
theorem pn_new {w:World} {cs:List Value} {o:Oper} {ρ:Operand->Value} (hc:cs.length=37) (x:Operand) (ho:o.op=.buildSlice 62 1 #[(0,x)]) (hx:ρ x=.agg cs.toArray) :
  (execOp ρ o).run prog w=.ok (.value (.slice (some ⟨w.heap.size,0,none⟩) 1 1)) (w.alloc (.cells cs.toArray 61)):=by
 obtain ⟨i0,hi,hz0,hz1,hz2⟩:=info_parts info_pn
 have h:=run_buildSlice (P:=prog) w 62 61 1 #[(0,.agg cs.toArray)] cs.toArray i0 _ underlying62 hi hz0 (by rw [hz1];omega) (by rw [hz1];omega) (by
  rw [hz1]
  have h2:=Great.fill_whole (s:=37) (by decide) [Value.agg cs.toArray] ((Array.range (1*37)).map (pinZero.cells[· % pinZero.cells.size]!)) (fun v hv=>by
   simp at hv
   subst hv
   show cs.toArray.size=37
   simp [hc]) (by simp)
  have h3:[Value.agg cs.toArray].flatMap (fun v=>v.cells.toList)=cs:=by
   show cs.toArray.toList++[]=cs
   simp
  rw [h3] at h2
  exact h2)
 unfold execOp
 simp only [ho,List.map_toArray,List.map_cons,List.map_nil,hx,Sem.run_bind]
 erw [h]
 rfl
set_option maxRecDepth 100000 in
set_option maxHeartbeats 8000000 in
theorem pins_any (L:List PnX) (hL:L.length<=1000000) (v:Value) (w:World) (hv:Sl w No 61 v L.length (L.flatMap PnX.cells)) (hov:∀ y ∈ L,PnOk y) :
  Calls prog 62 #[v] w fun e w'=>∃ v',e=.returned v'/\w'.ownsRow w.heap.size 61 37 v' L.length ((sortR ltPx L).flatMap PnX.cells)/\Mod No w w':=by
 refine calls_hide fun R hR=>?_
 have HV:=zh hv
 have HX1:=zh (show ∀ y ∈ L,(PnX.cells y).length=37 from fun y hy=>PnX.cells_length y (hov y hy).sum)
 have H1L:=zh (show ∀ S:List PnX,(∀ y ∈ S,y ∈ L)->∀ u ∈ S.flatMap PnX.cells,u.oneCell'=true from fun S hS u hu=>by
  obtain ⟨y,hy,hu⟩:=List.mem_flatMap.1 hu
  exact (hov y (hS y hy)).one u hu)
 obtain ⟨va,vc,rfl⟩:=hv.len
 obtain ⟨n,hn⟩:∃ n,n=L.length:=⟨_,rfl⟩
 have HNL:=zh hn
 have HRE:=zh (show ∀ w' v',w'.ownsRow w.heap.size 61 37 v' n ((sortR ltPx (L.take n)).flatMap PnX.cells)->Mod No w w'->R (.returned v') w' from fun w' v' h1 h2=>fin hR ⟨v',rfl,by rw [hn,List.take_length] at h1;exact h1,h2⟩)
 rw [<- hn] at HV
 rw [<- hn]
 have hn2:n<=1000000:=by omega
 obtain ⟨i0,hi0,hz0,hz1,hz2⟩:=info_parts info_pn
 have HI:=zh (And.intro hi0 (And.intro hz0 (And.intro hz1 hz2)))
 clear hi0 hz0 hz1 hz2 hv hov hn hL hR
 go_enter func62,ntmps62
 go_wp2_with fail
 go_loopw [3,4] (fun q3 q4 wr=>∃ (k:Nat) (v:Value),k<=n/\q4=.int .i64 (k:Int)/\q3=v/\wr.ownsRow w.heap.size 61 37 v k ((sortR ltPx (L.take k)).flatMap PnX.cells)/\Mod No w wr) (fun _ q _=>n - (intOf q).toNat)
 case atStart=>exact ⟨0,.slice none 0 0,by omega,rfl,rfl,⟨by simp [sortR],.inl ⟨rfl,rfl⟩⟩,Mod.refl _ _⟩
 case round =>
  obtain ⟨k,v,hk,rfl,rfl,hown,hm⟩:=hrel
  have HM:=zh hm
  have HO:=zh hown
  have hk0:(0:Int)<=(k:Int):=Int.natCast_nonneg _
  obtain ⟨sa,sc,hsv⟩:=own_len hown
  subst hsv
  clear hm hown
  by_cases hlt:k < n
  ·have hk1:(k:Int) < (n:Int):=by omega
   have hlt2:k < L.length:=by rw [<- HNL.out];exact hlt
   obtain ⟨b,o,c,hvs,_⟩:=HV.out.shape (by omega)
   cases hvs
   have HRG0:=zh (Sl.atM HX1.out HV.out hlt2)
   have HST:=zh (sortR_take ltPx L hlt2)
   have HMX:=zh (show ∀ y ∈ sortR ltPx (L.take k),y ∈ L from fun y hy=>List.mem_of_mem_take ((sortR_mem _ _ _).1 hy))
   have hsl:(sortR ltPx (L.take k)).length=k:=by rw [sortR_length,List.length_take];omega
   have HXI:=zh (List.getElem_mem hlt2)
   generalize sortR ltPx (L.take k)=S at *
   generalize L[k]=x at *
   go_wp2_with fail
   have HFS:=zh (show (S.flatMap PnX.cells).length=k*37 from HO.out.1)
   have HC:=zh (HX1.out x HXI.out)
   have H1X:=zh (H1L.out [x] (fun y hy=>by rw [List.mem_singleton.1 hy];exact HXI.out))
   obtain ⟨cx,hcx⟩:∃ cx,cx=PnX.cells x:=⟨_,rfl⟩
   have HXC:=zh (show PnX.cells x=cx from hcx.symm)
   rw [<- hcx] at HC HRG0
   clear hcx
   have HNM:=zh (show ∀ w',Mod No w w'->w'.cell? ⟨b,o+k*37,none⟩=some (strV x.p.name) from fun w' h=>by
    have h2:=(h.rangeAt HRG0.out (fun f=>f)) 0 (strV x.p.name) (by rw [<- HXC.out];rfl)
    rw [Nat.add_zero] at h2
    exact h2)
   generalize wr=wo at *
   go_loopw [5] (fun q wi=>∃ j:Nat,j<=k/\q=.int .i64 (j:Int)/\Mod No wo wi/\∀ i (hi:i < S.length),j<=i->x.p.name < S[i].p.name) (fun q _=>(intOf q).toNat)
   case atStart=>exact ⟨k,by omega,rfl,Mod.refl _ _,fun i hi h=>absurd hi (by omega)⟩
   case round =>
    obtain ⟨j,hj,rfl,hmi,hgt⟩:=hrel
    have HMI:=zh hmi
    have HGT:=zh hgt
    have hj0:(0:Int)<=(j:Int):=Int.natCast_nonneg _
    have HBB:=zh (show ∀ y ∈ S.drop j,ltPx x y=true from fun y hy=>by
     obtain ⟨i,hi,rfl⟩:=List.getElem_of_mem hy
     rw [List.getElem_drop]
     exact decide_eq_true (HGT.out (j+i) (by rw [List.length_drop] at hi;omega) (by omega)))
    clear hmi hgt
    rcases j with _ | m
    ·have hkn:decide ((0:Int) < 0)=false:=by decide
     have hkn2:decide ((0:Nat) < 0)=false:=by decide
     have HAA:=zh (show S.take 0=[]\/∃ C z,S.take 0=C++[z]/\ltPx x z=false from .inl rfl)
     go_upto_region 6 with fail
     go_quiet (fail)
     generalize hw3:World.drewN wr _=w3
     have HM3:=zh (show Mod No wo w3 by rw [<- hw3];exact HMI.out.drewN _)
     clear hw3 hkn hkn2
     have HIS:=zh (insR_scan (p:=ltPx x) (x:=x) (A:=S.take (0)) (B:=S.drop (0)) HBB.out HAA.out)
     rw [List.take_append_drop] at HIS
     obtain ⟨sv,tv,hsv,htv,hsc,hts,hld⟩:=pn_parts (k:=0) (Sl.of_own (X:=No) (own_keepM HO.out (HM3.out.drew) (fun _ _ f=>f)) (fun _ _ f=>f)) HFS.out (by omega)
     have HSV:=zh hsv
     have HTV:=zh htv
     obtain ⟨hi0,hz0,hz1,hz2⟩:=HI.out
     have HFX:=zh (show (S.flatMap PnX.cells).take ((0)*37)++(cx++(S.flatMap PnX.cells).drop ((0)*37))=(sortR ltPx (L.take (k+1))).flatMap PnX.cells by
      rw [HST.out,HIS.out,List.flatMap_append,List.flatMap_cons,flat_takeM (fun y hy=>HX1.out y (HMX.out y hy)),flat_dropM (fun y hy=>HX1.out y (HMX.out y hy)),HXC.out])
     obtain ⟨wD,hwD⟩:∃ y,y=w3.drew:=⟨_,rfl⟩
     rw [<- hwD] at hsc hts
     have HSC:=zh hsc
     have HTS:=zh hts
     have HLD:=zh hld
     have H1D:=zh (show ∀ u ∈ (S.flatMap PnX.cells).drop ((0)*37),u.oneCell'=true from fun u hu=>H1L.out S HMX.out u (List.mem_of_mem_drop hu))
     have HMD:=zh (show Mod No w wD by rw [hwD];exact HM.out.trans HM3.out.drew)
     have HRG:=zh (show ∀ w',Mod No wD w'->w'.rangeAt b (o+k*37) cx from fun w' h=>(HMD.out.trans h).rangeAt HRG0.out (fun f=>f))
     have HBD:=zh HMD.out.size
     have HWD:=zh hwD
     have hS0:=Mod.refl No wD
     generalize hXS:S.flatMap PnX.cells=XS at *
     clear hsv htv hsc hts hld hwD hXS
     go_upto_region 8 with fail
     refine wp_region_T (fun w'=>Mod No wD w') 99 (by kernel_rfl) ?_
     rw [<- HWD.out]
     refine yT 0 (some 32) ?_ hS0 ?_ ?_
     rotate_left
     ·(intro w' hSw;go_simp;try with_reducible rfl)
     simp only [Act.put,yB,yC,yD]
     refine yT 1 (some 33) ?_ hS0 ?_ ?_
     rotate_left
     ·(intro w' hSw;go_simp;try with_reducible rfl)
     simp only [Act.put,yB,yC,yD]
     refine yT 2 (some 34) ?_ hS0 ?_ ?_
     rotate_left
     ·(intro w' hSw;go_simp;try with_reducible rfl)
     simp only [Act.put,yB,yC,yD]
     refine yT 3 (some 35) sv hS0 ?_ ?_
     ·(intro w' hSw;apply yslice3 (HSV.out w') (.tmp 32) (.tmp 33) (.tmp 34) <;> rfl)
     simp only [Act.put,yB,yC,yD]
     refine yT 4 (some 36) ?_ hS0 ?_ ?_
     rotate_left
     ·(intro w' hSw;go_simp;try with_reducible rfl)
     simp only [Act.put,yB,yC,yD]
     refine yT 5 (some 37) ?_ hS0 ?_ ?_
     rotate_left
     ·(intro w' hSw;go_simp;try with_reducible rfl)
     simp only [Act.put,yB,yC,yD]
     refine yT 6 (some 38) ?_ hS0 ?_ ?_
     rotate_left
     ·(intro w' hSw;go_simp;try with_reducible rfl)
     simp only [Act.put,yB,yC,yD]
     refine yT 7 (some 39) (.agg cx.toArray) hS0 ?_ ?_
     ·(intro w' hSw;apply yloadv (run_loadVar_mid w' b (o+k*37) 61 cx _ (HRG.out w' hSw) underlying61 rfl (by rw [HC.out];kernel_rfl)) (.tmp 38) <;> rfl)
     simp only [Act.put,yB,yC,yD]
     refine yT 9 (some 41) ?_ hS0 ?_ ?_
     rotate_left
     ·(intro w' hSw;go_simp;try with_reducible rfl)
     simp only [Act.put,yB,yC,yD]
     refine yT 10 (some 42) ?_ hS0 ?_ ?_
     rotate_left
     ·(intro w' hSw;go_simp;try with_reducible rfl)
     simp only [Act.put,yB,yC,yD]
     refine yT 11 (some 43) tv hS0 ?_ ?_
     ·(intro w' hSw;apply yslice1 (HTV.out w') (.tmp 41) (.tmp 42) <;> rfl)
     simp only [Act.put,yB,yC,yD]
     refine wpAnyT_one 8 rfl (by kernel_rfl) rfl ?_
     intro K hK
     obtain ⟨ga,hga⟩:∃ ga,ga=wD.heap.size:=⟨_,rfl⟩
     obtain ⟨wD_8,hwD_8⟩:∃ y,y=wD.alloc (.cells cx.toArray 61):=⟨_,rfl⟩
     have HGA:=zh (show wD_8.heap[ga]? = some (.cells cx.toArray 61 (0,0)) by rw [hwD_8,hga];exact heap_alloc_new _ _)
     have hmwD_8:Mod No wD wD_8:=by rw [hwD_8];exact (Mod.refl No _).alloc _
     have HGL:=zh (show wD.heap.size<=ga by omega)
     refine wp_value (v:=.slice (some ⟨ga,0,none⟩) 1 1) (w':=wD_8) (by rw [hga,hwD_8];apply pn_new HC.out (.tmp 39) <;> rfl) ?_
     clear hwD_8 hga
     show K (Act.put _ (some 40) _) _
     have hS1:=hS0.trans hmwD_8
     refine hK.out _ _ (fun _=>hS1) ?_
     clear hK K
     refine wpAnyT_one 12 rfl (by kernel_rfl) rfl ?_
     intro K hK
     refine wp_app_sl wD_8 (.tmp 40) (.tmp 43) 62 (by rfl) ga 61 i0 _ 37 96 underlying62 hi0 hz0 hz1 hz2 rfl (by decide) (.slice (some ⟨ga,0,none⟩) 1 1) 1 cx (by rfl) ⟨by rw [HC.out],.inr ⟨ga,1,_,rfl,Nat.le_refl _,HGA.out,Nat.le_refl _,by unfold maxLen;omega,by simp [HC.out],by rw [List.toList_toArray,List.take_of_length_le (by rw [HC.out];decide)]⟩⟩ No 61 tv (k - 0) (XS.drop (0*37)) (by rfl) (HTS.out.kn hS1) HLD.out H1D.out (by unfold maxLen;omega) (by omega) (Nat.le_of_lt (lt_of_heap HGA.out)) ?_
     intro v6 w6 hown hg6 _
     obtain ⟨g6,c6,rfl,hg6a⟩:=own_shape hown (by omega)
     have HO6:=zh hown
     have hm6:Mod No wD w6:=hS1.then (Mod.of_grown (S:=fun q=>q=ga) hg6 (fun q e _=>by cases e;rfl)) (fun q hq e=>by have e:q=ga:=e;have h1:=HGL.out;omega)
     have HB6:=zh (show w.heap.size<=w6.heap.size from Nat.le_trans HBD.out hm6.size)
     clear hown hg6
     show K (Act.put _ (some 44) _) _
     have hS2:=hm6
     refine hK.out _ _ (fun _=>hS2) ?_
     clear hK K
     refine wpAnyT_one 13 rfl (by kernel_rfl) rfl ?_
     intro K hK
     refine wp_app_full w6 (.tmp 35) (.tmp 44) 62 (by rfl) w.heap.size 61 i0 _ 37 96 underlying62 hi0 hz0 hz1 hz2 rfl sv 0 (XS.take (0*37)) (by rfl) (by
      rcases HSC.out with h | ⟨a0,h1,h2,h3⟩
      ·exact .inl h
      ·exact .inr ⟨a0,h1,h2,fun j u e=>hS2.cell (h3 j u e) (fun f=>f)⟩) ⟨g6,0,none⟩ (1+(k - 0)) c6 (cx++XS.drop (0*37)) (by rfl) (by omega) HO6.out.1 (fun j u e=>HO6.out.cells (g:=g6) rfl j u e) (by unfold maxLen;omega) (by omega) HB6.out ?_
     intro v7 w7 hown7 hm7
     have HO7:=zh hown7
     clear hown7
     show K (Act.put _ (some 45) _) _
     have hS3:=hS2.trans hm7
     refine hK.out _ _ (fun _=>hS3) ?_
     clear hK K
     refine yT 14 (some 3) ?_ hS3 ?_ ?_
     rotate_left
     ·(intro w' hSw;go_simp;try with_reducible rfl)
     simp only [Act.put]
     refine wpAnyT_done (by kernel_rfl) ?_ _
     have HMF:=zh hS3
     clear hS0 hS1 hS2 hS3
     go_wp2_with fail
     refine ⟨⟨k+1,v7,by omega,rfl,rfl,?_,HMD.out.trans HMF.out⟩,by show n - ((k:Int)+1).toNat < n - (k:Int).toNat;omega⟩
     have h9:=HO7.out
     rw [HFX.out,show (0)+(1+(k - (0)))=k+1 by omega] at h9
     exact h9
    ·have hms:m < S.length:=by omega
     have hc2:=HNM.out wr (HM.out.trans HMI.out)
     obtain ⟨gs,cs,hvs,hgb⟩:=own_shape HO.out (by omega)
     cases hvs
     have hc1:=(Sl.of_own (X:=No) (own_keepM HO.out HMI.out (fun _ _ f=>f)) (fun _ _ f=>f))
     have hc3:=Sl.atM (fun y hy=>HX1.out y (HMX.out y hy)) hc1 hms 0 (strV S[m].p.name) rfl
     rw [Nat.add_zero,Nat.zero_add] at hc3
     have hkn:decide ((0:Int) < ((m+1:Nat):Int))=true:=decide_eq_true (by omega)
     have hkn2:decide (0 < m+1)=true:=decide_eq_true (by omega)
     have hT1:=str_list x.p.name
     have hT2:=str_list S[m].p.name
     have HEQ:=zh (show x.p.name < S[m].p.name->∀ i (hi:i < S.length),m<=i->x.p.name < S[i].p.name from fun h i hi him=>by
      rcases Nat.lt_or_ge m i with h3 | h3
      ·exact HGT.out i hi (by omega)
      ·obtain rfl:i=m:=by omega
       exact h)
     by_cases hlt3:x.p.name < S[m].p.name
     ·have hbl:Op.bytesLess (⟨S[m].p.name.toArray⟩:ByteArray).toList (⟨x.p.name.toArray⟩:ByteArray).toList=false:=by rw [hT1,hT2,bytesLess_decT];exact decide_eq_false (fun h=>List.lt_asymm h hlt3)
      have hbe:((⟨S[m].p.name.toArray⟩:ByteArray).toList == (⟨x.p.name.toArray⟩:ByteArray).toList)=false:=by
       rw [hT1,hT2]
       rcases hb:(S[m].p.name == x.p.name) with _ | _
       ·rfl
       ·have:=eq_of_beq hb
        rw [this] at hlt3
        exact absurd hlt3 (List.lt_irrefl _)
      have HN:=zh (HEQ.out hlt3)
      unfold strV at *
      generalize (⟨x.p.name.toArray⟩:ByteArray)=X1 at *
      generalize (⟨S[m].p.name.toArray⟩:ByteArray)=X2 at *
      clear hT1 hT2 HEQ hlt3
      go_upto_region 6 with fail
      go_quiet (fail)
      generalize hw3:World.drewN wr _=w3
      have HM3:=zh (show Mod No wo w3 by rw [<- hw3];exact HMI.out.drewN _)
      clear hw3 hkn hkn2 hc2 hc3
      go_wp2_with fail
      exact ⟨⟨m,by omega,rfl,HM3.out,HN.out⟩,by show (m:Int).toNat < ((m+1:Nat):Int).toNat;omega⟩
     ·have hor:Op.bytesLess (⟨S[m].p.name.toArray⟩:ByteArray).toList (⟨x.p.name.toArray⟩:ByteArray).toList=true\/((⟨S[m].p.name.toArray⟩:ByteArray).toList == (⟨x.p.name.toArray⟩:ByteArray).toList)=true:=by
       rw [hT1,hT2,bytesLess_decT]
       by_cases h5:x.p.name=S[m].p.name
       ·right;rw [h5];simp
       ·left;exact decide_eq_true (text_gt hlt3 h5)
      have HOR:=zh hor
      clear hor
      have HAA:=zh (show S.take (m+1)=[]\/∃ C z,S.take (m+1)=C++[z]/\ltPx x z=false from .inr ⟨S.take m,S[m],List.take_succ_eq_append_getElem hms,decide_eq_false hlt3⟩)
      unfold strV at *
      generalize (⟨x.p.name.toArray⟩:ByteArray)=X1 at *
      generalize (⟨S[m].p.name.toArray⟩:ByteArray)=X2 at *
      clear hT1 hT2 HEQ hlt3
      go_upto_region 6 with fail
      go_quiet (fail)
      generalize hw3:World.drewN wr _=w3
      have HM3:=zh (show Mod No wo w3 by rw [<- hw3];exact HMI.out.drewN _)
      clear hw3 hkn hkn2 hc2 hc3
      have HIS:=zh (insR_scan (p:=ltPx x) (x:=x) (A:=S.take (m+1)) (B:=S.drop (m+1)) HBB.out HAA.out)
      rw [List.take_append_drop] at HIS
      obtain ⟨sv,tv,hsv,htv,hsc,hts,hld⟩:=pn_parts (k:=m+1) (Sl.of_own (X:=No) (own_keepM HO.out (HM3.out.drew) (fun _ _ f=>f)) (fun _ _ f=>f)) HFS.out (by omega)
      have HSV:=zh hsv
      have HTV:=zh htv
      obtain ⟨hi0,hz0,hz1,hz2⟩:=HI.out
      have HFX:=zh (show (S.flatMap PnX.cells).take ((m+1)*37)++(cx++(S.flatMap PnX.cells).drop ((m+1)*37))=(sortR ltPx (L.take (k+1))).flatMap PnX.cells by
       rw [HST.out,HIS.out,List.flatMap_append,List.flatMap_cons,flat_takeM (fun y hy=>HX1.out y (HMX.out y hy)),flat_dropM (fun y hy=>HX1.out y (HMX.out y hy)),HXC.out])
      obtain ⟨wD,hwD⟩:∃ y,y=w3.drew:=⟨_,rfl⟩
      rw [<- hwD] at hsc hts
      have HSC:=zh hsc
      have HTS:=zh hts
      have HLD:=zh hld
      have H1D:=zh (show ∀ u ∈ (S.flatMap PnX.cells).drop ((m+1)*37),u.oneCell'=true from fun u hu=>H1L.out S HMX.out u (List.mem_of_mem_drop hu))
      have HMD:=zh (show Mod No w wD by rw [hwD];exact HM.out.trans HM3.out.drew)
      have HRG:=zh (show ∀ w',Mod No wD w'->w'.rangeAt b (o+k*37) cx from fun w' h=>(HMD.out.trans h).rangeAt HRG0.out (fun f=>f))
      have HBD:=zh HMD.out.size
      have HWD:=zh hwD
      have hS0:=Mod.refl No wD
      generalize hXS:S.flatMap PnX.cells=XS at *
      clear hsv htv hsc hts hld hwD hXS
      go_upto_region 8 with fail
      ·exfalso
       rename_i h9
       rcases HOR.out with e | e
       ·exact absurd h9.1 (by rw [e];decide)
       ·exact absurd h9.2 (by rw [e];decide)
      refine wp_region_T (fun w'=>Mod No wD w') 99 (by kernel_rfl) ?_
      rw [<- HWD.out]
      refine yT 0 (some 32) ?_ hS0 ?_ ?_
      rotate_left
      ·(intro w' hSw;go_simp;try with_reducible rfl)
      simp only [Act.put,yB,yC,yD]
      refine yT 1 (some 33) ?_ hS0 ?_ ?_
      rotate_left
      ·(intro w' hSw;go_simp;try with_reducible rfl)
      simp only [Act.put,yB,yC,yD]
      refine yT 2 (some 34) ?_ hS0 ?_ ?_
      rotate_left
      ·(intro w' hSw;go_simp;try with_reducible rfl)
      simp only [Act.put,yB,yC,yD]
      refine yT 3 (some 35) sv hS0 ?_ ?_
      ·(intro w' hSw;apply yslice3 (HSV.out w') (.tmp 32) (.tmp 33) (.tmp 34) <;> rfl)
      simp only [Act.put,yB,yC,yD]
      refine yT 4 (some 36) ?_ hS0 ?_ ?_
      rotate_left
      ·(intro w' hSw;go_simp;try with_reducible rfl)
      simp only [Act.put,yB,yC,yD]
      refine yT 5 (some 37) ?_ hS0 ?_ ?_
      rotate_left
      ·(intro w' hSw;go_simp;try with_reducible rfl)
      simp only [Act.put,yB,yC,yD]
      refine yT 6 (some 38) ?_ hS0 ?_ ?_
      rotate_left
      ·(intro w' hSw;go_simp;try with_reducible rfl)
      simp only [Act.put,yB,yC,yD]
      refine yT 7 (some 39) (.agg cx.toArray) hS0 ?_ ?_
      ·(intro w' hSw;apply yloadv (run_loadVar_mid w' b (o+k*37) 61 cx _ (HRG.out w' hSw) underlying61 rfl (by rw [HC.out];kernel_rfl)) (.tmp 38) <;> rfl)
      simp only [Act.put,yB,yC,yD]
      refine yT 9 (some 41) ?_ hS0 ?_ ?_
      rotate_left
      ·(intro w' hSw;go_simp;try with_reducible rfl)
      simp only [Act.put,yB,yC,yD]
      refine yT 10 (some 42) ?_ hS0 ?_ ?_
      rotate_left
      ·(intro w' hSw;go_simp;try with_reducible rfl)
      simp only [Act.put,yB,yC,yD]
      refine yT 11 (some 43) tv hS0 ?_ ?_
      ·(intro w' hSw;apply yslice1 (HTV.out w') (.tmp 41) (.tmp 42) <;> rfl)
      simp only [Act.put,yB,yC,yD]
      refine wpAnyT_one 8 rfl (by kernel_rfl) rfl ?_
      intro K hK
      obtain ⟨ga,hga⟩:∃ ga,ga=wD.heap.size:=⟨_,rfl⟩
      obtain ⟨wD_8,hwD_8⟩:∃ y,y=wD.alloc (.cells cx.toArray 61):=⟨_,rfl⟩
      have HGA:=zh (show wD_8.heap[ga]? = some (.cells cx.toArray 61 (0,0)) by rw [hwD_8,hga];exact heap_alloc_new _ _)
      have hmwD_8:Mod No wD wD_8:=by rw [hwD_8];exact (Mod.refl No _).alloc _
      have HGL:=zh (show wD.heap.size<=ga by omega)
      refine wp_value (v:=.slice (some ⟨ga,0,none⟩) 1 1) (w':=wD_8) (by rw [hga,hwD_8];apply pn_new HC.out (.tmp 39) <;> rfl) ?_
      clear hwD_8 hga
      show K (Act.put _ (some 40) _) _
      have hS1:=hS0.trans hmwD_8
      refine hK.out _ _ (fun _=>hS1) ?_
      clear hK K
      refine wpAnyT_one 12 rfl (by kernel_rfl) rfl ?_
      intro K hK
      refine wp_app_sl wD_8 (.tmp 40) (.tmp 43) 62 (by rfl) ga 61 i0 _ 37 96 underlying62 hi0 hz0 hz1 hz2 rfl (by decide) (.slice (some ⟨ga,0,none⟩) 1 1) 1 cx (by rfl) ⟨by rw [HC.out],.inr ⟨ga,1,_,rfl,Nat.le_refl _,HGA.out,Nat.le_refl _,by unfold maxLen;omega,by simp [HC.out],by rw [List.toList_toArray,List.take_of_length_le (by rw [HC.out];decide)]⟩⟩ No 61 tv (k - (m+1)) (XS.drop ((m+1)*37)) (by rfl) (HTS.out.kn hS1) HLD.out H1D.out (by unfold maxLen;omega) (by omega) (Nat.le_of_lt (lt_of_heap HGA.out)) ?_
      intro v6 w6 hown hg6 _
      obtain ⟨g6,c6,rfl,hg6a⟩:=own_shape hown (by omega)
      have HO6:=zh hown
      have hm6:Mod No wD w6:=hS1.then (Mod.of_grown (S:=fun q=>q=ga) hg6 (fun q e _=>by cases e;rfl)) (fun q hq e=>by have e:q=ga:=e;have h1:=HGL.out;omega)
      have HB6:=zh (show w.heap.size<=w6.heap.size from Nat.le_trans HBD.out hm6.size)
      clear hown hg6
      show K (Act.put _ (some 44) _) _
      have hS2:=hm6
      refine hK.out _ _ (fun _=>hS2) ?_
      clear hK K
      refine wpAnyT_one 13 rfl (by kernel_rfl) rfl ?_
      intro K hK
      refine wp_app_full w6 (.tmp 35) (.tmp 44) 62 (by rfl) w.heap.size 61 i0 _ 37 96 underlying62 hi0 hz0 hz1 hz2 rfl sv (m+1) (XS.take ((m+1)*37)) (by rfl) (by
       rcases HSC.out with h | ⟨a0,h1,h2,h3⟩
       ·exact .inl h
       ·exact .inr ⟨a0,h1,h2,fun j u e=>hS2.cell (h3 j u e) (fun f=>f)⟩) ⟨g6,0,none⟩ (1+(k - (m+1))) c6 (cx++XS.drop ((m+1)*37)) (by rfl) (by omega) HO6.out.1 (fun j u e=>HO6.out.cells (g:=g6) rfl j u e) (by unfold maxLen;omega) (by omega) HB6.out ?_
      intro v7 w7 hown7 hm7
      have HO7:=zh hown7
      clear hown7
      show K (Act.put _ (some 45) _) _
      have hS3:=hS2.trans hm7
      refine hK.out _ _ (fun _=>hS3) ?_
      clear hK K
      refine yT 14 (some 3) ?_ hS3 ?_ ?_
      rotate_left
      ·(intro w' hSw;go_simp;try with_reducible rfl)
      simp only [Act.put]
      refine wpAnyT_done (by kernel_rfl) ?_ _
      have HMF:=zh hS3
      clear hS0 hS1 hS2 hS3
      go_wp2_with fail
      refine ⟨⟨k+1,v7,by omega,rfl,rfl,?_,HMD.out.trans HMF.out⟩,by show n - ((k:Int)+1).toNat < n - (k:Int).toNat;omega⟩
      have h9:=HO7.out
      rw [HFX.out,show ((m+1))+(1+(k - ((m+1))))=k+1 by omega] at h9
      exact h9
  ·obtain rfl:k=n:=by omega
   have hk1:¬ ((k:Int) < (k:Int)):=by omega
   go_wp2_with fail
   exact HRE.out _ _ HO.out HM.out
def pinT (p:Pn):List UInt8:=p.name++32 :: (verT p.v++32 :: (hexL p.sum++[10]))
def lockHead:List UInt8:=[108,111,99,107,32,49,10]
structure PnAt (w:World) (x:PnX):Prop where
 ok:PnOk x
 pre:Sl w No 9 x.pv x.p.v.pre.length (strs x.p.v.pre)
 small:Small x.p.v
 ver:x.p.v.ma < 1000000000000000000/\x.p.v.mi < 1000000000000000000/\x.p.v.pa < 1000000000000000000
set_option maxRecDepth 100000 in
set_option maxHeartbeats 16000000 in
theorem locktext_any (L:List PnX) (hL:L.length<=1000000) (v:Value) (w:World) (hok:∀ x ∈ L,PnAt w x) (hv:Sl w No 61 v L.length (L.flatMap PnX.cells)) (hlen:(lockHead++(sortR ltPx L).flatMap fun x=>pinT x.p).length<=1000000000000) :
  Calls prog 26 #[v] w fun e w'=>e=.returned (strV (lockHead++(sortR ltPx L).flatMap fun x=>pinT x.p))/\Mod No w w':=by
 refine calls_hide fun R hR=>?_
 have HPN:=zh (pins_any L hL v w hv (fun y hy=>(hok y hy).ok))
 have HOK:=zh (show ∀ x ∈ sortR ltPx L,PnAt w x from fun x hx=>hok x ((sortR_mem _ _ _).1 hx))
 have HSLN:=zh (show (sortR ltPx L).length=L.length from sortR_length _ _)
 obtain ⟨va,vc,rfl⟩:=hv.len
 clear hok hv
 generalize sortR ltPx L=xs at *
 have HLEN:=zh (show ∀ k,(lockHead++(xs.take k).flatMap fun x=>pinT x.p).length<=(lockHead++xs.flatMap fun x=>pinT x.p).length from fun k=>by
  conv=>rhs;rw [<- List.take_append_drop k xs]
  rw [List.flatMap_append,<- List.append_assoc,List.length_append (bs:=(xs.drop k).flatMap _)]
  omega)
 have HLE:=zh hlen
 obtain ⟨n,hn⟩:∃ n,n=L.length:=⟨_,rfl⟩
 have HNX:=zh (show n=xs.length by rw [HSLN.out];exact hn)
 rw [<- hn] at HPN hL
 rw [<- hn]
 clear hn hlen HSLN
 go_enter func26,ntmps26
 go_wp2_with fail
 with_reducible refine HPN.out.mono ?_
 rintro e w1 ⟨v',rfl,hown,hm1⟩
 have HM1:=zh hm1
 have HRV:=zh (show Sl w1 No 61 v' n (xs.flatMap PnX.cells) from Sl.of_own hown (fun _ _ f=>f))
 obtain ⟨ra,rc,hvv⟩:=HRV.out.len
 subst hvv
 clear hown hm1 HPN
 go_wp2_with fail
 go_loopw [3,5] (fun q3 q5 wr=>∃ k:Nat,k<=n/\q5=.int .i64 (k:Int)/\q3=strV (lockHead++(xs.take k).flatMap fun x=>pinT x.p)/\Mod No w1 wr) (fun _ q _=>n - (intOf q).toNat)
 case atStart=>exact ⟨0,by omega,rfl,rfl,Mod.refl _ _⟩
 case round =>
  obtain ⟨k,hk,rfl,rfl,hm⟩:=hrel
  have HM:=zh hm
  have hk0:(0:Int)<=(k:Int):=Int.natCast_nonneg _
  clear hm
  by_cases hlt:k < n
  ·have hk1:(k:Int) < (n:Int):=by omega
   have hlt2:k < xs.length:=by rw [<- HNX.out];exact hlt
   obtain ⟨b,o,c,hvs,_⟩:=HRV.out.shape (by omega)
   cases hvs
   have HRG:=zh (HM.out.rangeAt (Sl.atM (fun x hx=>PnX.cells_length x (HOK.out x hx).ok.sum) HRV.out hlt2) (fun f=>f))
   have HXK:=zh (HOK.out _ (List.getElem_mem hlt2))
   have HTK:=zh (show (lockHead++(xs.take (k+1)).flatMap fun x=>pinT x.p)=(lockHead++(xs.take k).flatMap fun x=>pinT x.p)++pinT xs[k].p by
    rw [List.take_succ_eq_append_getElem hlt2,List.flatMap_append,List.append_assoc]
    simp)
   have HBD:=zh (show ((lockHead++(xs.take k).flatMap fun x=>pinT x.p)++pinT xs[k].p).length<=1000000000000 by rw [<- HTK.out];exact Nat.le_trans (HLEN.out (k+1)) HLE.out)
   clear HLEN HLE
   generalize xs[k]=y at *
   generalize (lockHead++(xs.take k).flatMap fun x=>pinT x.p)=TX at *
   obtain ⟨pa,pc,hpe⟩:=HXK.out.pre.len
   have HVX0:=zh (fun W (hm:Mod No wr W)=>vtext_any y.p.v y.pv HXK.out.small HXK.out.ver W (HXK.out.pre.kn (HM1.out.trans (HM.out.trans hm))))
   have HHX0:=zh (refhex_any y.p.sum HXK.out.ok.sum)
   have HPT:=zh (show pinT y.p=y.p.name++32 :: (verT y.p.v++32 :: (hexL y.p.sum++[10])) from rfl)
   have HSL:=zh HXK.out.ok.sum
   have HCS:=zh (show PnX.cells y=strV y.p.name :: (verCs y.p.v y.pv++bv y.p.sum) from rfl)
   obtain ⟨cs,hcs⟩:∃ cs,cs=PnX.cells y:=⟨_,rfl⟩
   rw [<- hcs] at HRG HCS
   clear hcs HXK
   generalize hPK:pinT y.p=PK at *
   clear hPK
   obtain ⟨⟨nm,⟨xa,xi,xp,xpr⟩,sm⟩,ypv⟩:=y
   dsimp only at *
   subst hpe
   obtain ⟨pn,hpn⟩:∃ n,n=xpr.length:=⟨_,rfl⟩
   rw [<- hpn] at HVX0 HCS
   clear hpn
   have hpl:=HBD.out
   rw [List.length_append,HPT.out] at hpl
   simp only [List.length_append,List.length_cons,List.length_nil] at hpl
   unfold verCs at HCS
   dsimp only at HCS
   generalize verT ⟨xa,xi,xp,xpr⟩=VT at *
   generalize hexL sm=HX at *
   obtain ⟨S6,hS6⟩:∃ c,c=TX++nm:=⟨_,rfl⟩
   have hlS6:S6.length=TX.length+nm.length:=(congrArg List.length hS6).trans List.length_append
   have HS6:=zh (show TX++nm=S6/\S6.length<=9223372036854775807 from ⟨hS6.symm,by omega⟩)
   obtain ⟨S7,hS7⟩:∃ c,c=S6++[32]:=⟨_,rfl⟩
   have hlS7:S7.length=S6.length+1:=(congrArg List.length hS7).trans List.length_append
   have HS7:=zh (show S6++[32]=S7/\S7.length<=9223372036854775807 from ⟨hS7.symm,by omega⟩)
   obtain ⟨S14,hS14⟩:∃ c,c=S7++VT:=⟨_,rfl⟩
   have hlS14:S14.length=S7.length+VT.length:=(congrArg List.length hS14).trans List.length_append
   have HS14:=zh (show S7++VT=S14/\S14.length<=9223372036854775807 from ⟨hS14.symm,by omega⟩)
   obtain ⟨S15,hS15⟩:∃ c,c=S14++[32]:=⟨_,rfl⟩
   have hlS15:S15.length=S14.length+1:=(congrArg List.length hS15).trans List.length_append
   have HS15:=zh (show S14++[32]=S15/\S15.length<=9223372036854775807 from ⟨hS15.symm,by omega⟩)
   obtain ⟨S22,hS22⟩:∃ c,c=S15++HX:=⟨_,rfl⟩
   have hlS22:S22.length=S15.length+HX.length:=(congrArg List.length hS22).trans List.length_append
   have HS22:=zh (show S15++HX=S22/\S22.length<=9223372036854775807 from ⟨hS22.symm,by omega⟩)
   obtain ⟨S23,hS23⟩:∃ c,c=S22++[10]:=⟨_,rfl⟩
   have hlS23:S23.length=S22.length+1:=(congrArg List.length hS23).trans List.length_append
   have HS23:=zh (show S22++[10]=S23/\S23.length<=9223372036854775807 from ⟨hS23.symm,by omega⟩)
   clear hS6 hlS6 hS7 hlS7 hS14 hlS14 hS15 hlS15 hS22 hlS22 hS23 hlS23
   clear hpl
   go_upto_region 6 with fail
   obtain ⟨wD,hwD⟩:∃ z,z=wr.drew:=⟨_,rfl⟩
   have hmD:Mod No wr wD:=by rw [hwD];exact (Mod.refl No wr).drew
   have HMD:=zh hmD
   have HSM:=zh (show (∀ w',Mod No wD w'->w'.cell? ⟨b,o+k*37,none⟩=some (strV nm))/\(∀ w',Mod No wD w'->w'.rangeAt b (o+k*37+1) [.int .i64 xa,.int .i64 xi,.int .i64 xp,.slice pa pn pc])/\(∀ w',Mod No wD w'->w'.rangeAt b (o+k*37+5) (bv sm)) from
    ⟨fun w' h=>(hmD.trans h).cell (HRG.out 0 _ (by rw [HCS.out];rfl)) (fun f=>f),
     fun w' h=>(hmD.trans h).rangeAt (rangeAt_part (p:=[strV nm]) (q:=[.int .i64 xa,.int .i64 xi,.int .i64 xp,.slice pa pn pc]) (r:=bv sm) (by have h9:=HRG.out;rw [HCS.out] at h9;simpa using h9)) (fun f=>f),
     fun w' h=>(hmD.trans h).rangeAt (rangeAt_part (p:=[strV nm,.int .i64 xa,.int .i64 xi,.int .i64 xp,.slice pa pn pc]) (q:=bv sm) (r:=[]) (by have h9:=HRG.out;rw [HCS.out] at h9;simpa using h9)) (fun f=>f)⟩)
   have HWA:=zh hwD
   have hS0:=Mod.refl No wD
   clear hwD hmD HRG HCS
   refine wp_region_T (fun w'=>Mod No wD w') 99 (by kernel_rfl) ?_
   rw [<- HWA.out]
   clear HWA
   refine yT 0 (some 14) ?_ hS0 ?_ ?_
   rotate_left
   ·(intro w' hSw;go_simp;try with_reducible rfl)
   simp only [Act.put,yB,yC,yD]
   refine yT 1 (some 15) ?_ hS0 ?_ ?_
   rotate_left
   ·(intro w' hSw;go_simp;try with_reducible rfl)
   simp only [Act.put,yB,yC,yD]
   refine yT 2 (some 16) ?_ hS0 ?_ ?_
   rotate_left
   ·(intro w' hSw;go_simp;try with_reducible rfl)
   simp only [Act.put,yB,yC,yD]
   refine yT 3 (some 17) ?_ hS0 ?_ ?_
   rotate_left
   ·(intro w' hSw;go_simp;try with_reducible rfl)
   simp only [Act.put,yB,yC,yD]
   refine yT 4 (some 18) ?_ hS0 ?_ ?_
   rotate_left
   ·(intro w' hSw;go_simp;try with_reducible rfl)
   simp only [Act.put,yB,yC,yD]
   refine yT 5 (some 19) ?_ hS0 ?_ ?_
   rotate_left
   ·(intro w' hSw;have q0:=HSM.out.1 w' hSw;go_simp;try with_reducible rfl)
   simp only [Act.put,yB,yC,yD]
   refine yT 6 (some 20) (.string ⟨S6.toArray⟩) hS0 ?_ ?_
   ·(intro w' hSw;apply ycat HS6.out (.tmp 14) (.tmp 19) <;> rfl)
   simp only [Act.put,yB,yC,yD]
   refine yT 7 (some 21) (.string ⟨S7.toArray⟩) hS0 ?_ ?_
   ·(intro w' hSw;apply ycat HS7.out (.tmp 20) (.const (.string ⟨#[32]⟩)) <;> rfl)
   simp only [Act.put,yB,yC,yD]
   refine yT 8 (some 22) ?_ hS0 ?_ ?_
   rotate_left
   ·(intro w' hSw;go_simp;try with_reducible rfl)
   simp only [Act.put,yB,yC,yD]
   refine yT 9 (some 23) ?_ hS0 ?_ ?_
   rotate_left
   ·(intro w' hSw;go_simp;try with_reducible rfl)
   simp only [Act.put,yB,yC,yD]
   refine yT 10 (some 24) ?_ hS0 ?_ ?_
   rotate_left
   ·(intro w' hSw;go_simp;try with_reducible rfl)
   simp only [Act.put,yB,yC,yD]
   refine yT 11 (some 25) ?_ hS0 ?_ ?_
   rotate_left
   ·(intro w' hSw;go_simp;try with_reducible rfl)
   simp only [Act.put,yB,yC,yD]
   refine yT 12 (some 26) (verV ⟨xa,xi,xp,xpr⟩ (.slice pa pn pc)) hS0 ?_ ?_
   ·(intro w' hSw;apply yloadv (run_loadVar_mid w' b (o+k*37+1) 40 [.int .i64 xa,.int .i64 xi,.int .i64 xp,.slice pa pn pc] _ (HSM.out.2.1 w' hSw) underlying40 rfl (by kernel_rfl)) (.tmp 25) <;> rfl)
   simp only [Act.put,yB,yC,yD]
   refine yT 16 (some 30) ?_ hS0 ?_ ?_
   rotate_left
   ·(intro w' hSw;go_simp;try with_reducible rfl)
   simp only [Act.put,yB,yC,yD]
   refine yT 17 (some 31) ?_ hS0 ?_ ?_
   rotate_left
   ·(intro w' hSw;go_simp;try with_reducible rfl)
   simp only [Act.put,yB,yC,yD]
   refine yT 18 (some 32) ?_ hS0 ?_ ?_
   rotate_left
   ·(intro w' hSw;go_simp;try with_reducible rfl)
   simp only [Act.put,yB,yC,yD]
   refine yT 19 (some 33) ?_ hS0 ?_ ?_
   rotate_left
   ·(intro w' hSw;go_simp;try with_reducible rfl)
   simp only [Act.put,yB,yC,yD]
   refine yT 20 (some 34) (keyV sm) hS0 ?_ ?_
   ·(intro w' hSw;apply yloadv (run_loadVar_mid w' b (o+k*37+5) 43 (bv sm) _ (HSM.out.2.2 w' hSw) underlying43 rfl (by rw [bv_length,HSL.out];kernel_rfl)) (.tmp 33) <;> rfl)
   simp only [Act.put,yB,yC,yD]
   refine wpAnyT_one 13 rfl (by kernel_rfl) rfl ?_
   intro K hK
   go_simp
   go_at_call 63
   with_reducible refine (HVX0.out wD HMD.out).mono ?_
   rintro e wE ⟨rfl,hwE⟩
   have HMwE:=zh (hS0.trans hwE)
   clear hwE
   show K _ _
   have hS1:=HMwE.out
   refine hK.out _ _ (fun _=>hS1) ?_
   clear hK K
   refine yT 14 (some 28) (.string ⟨S14.toArray⟩) hS1 ?_ ?_
   ·(intro w' hSw;apply ycat HS14.out (.tmp 21) (.tmp 27) <;> rfl)
   simp only [Act.put,yB,yC,yD]
   refine yT 15 (some 29) (.string ⟨S15.toArray⟩) hS1 ?_ ?_
   ·(intro w' hSw;apply ycat HS15.out (.tmp 28) (.const (.string ⟨#[32]⟩)) <;> rfl)
   simp only [Act.put,yB,yC,yD]
   refine wpAnyT_one 21 rfl (by kernel_rfl) rfl ?_
   intro K hK
   go_simp
   go_at_call 64
   with_reducible refine (HHX0.out _).mono ?_
   rintro e wF ⟨rfl,hwF⟩
   have HMwF:=zh (hS1.trans hwF)
   clear hwF
   show K _ _
   have hS2:=HMwF.out
   refine hK.out _ _ (fun _=>hS2) ?_
   clear hK K
   refine yT 22 (some 36) (.string ⟨S22.toArray⟩) hS2 ?_ ?_
   ·(intro w' hSw;apply ycat HS22.out (.tmp 29) (.tmp 35) <;> rfl)
   simp only [Act.put,yB,yC,yD]
   refine yT 23 (some 37) (.string ⟨S23.toArray⟩) hS2 ?_ ?_
   ·(intro w' hSw;apply ycat HS23.out (.tmp 36) (.const (.string ⟨#[10]⟩)) <;> rfl)
   simp only [Act.put,yB,yC,yD]
   refine yT 24 (some 3) ?_ hS2 ?_ ?_
   rotate_left
   ·(intro w' hSw;go_simp;try with_reducible rfl)
   simp only [Act.put]
   refine wpAnyT_done (by kernel_rfl) ?_ _
   have HMG:=zh (HMD.out.trans hS2)
   clear hS0 hS1 hS2
   have HPK:=zh (show S23=TX++PK by rw [HPT.out];rw [<- HS23.out.1,<- HS22.out.1,<- HS15.out.1,<- HS14.out.1,<- HS7.out.1,<- HS6.out.1];simp)
   go_wp2_with fail
   exact ⟨⟨k+1,by omega,rfl,by rw [HTK.out,<- HPK.out],HM.out.trans HMG.out⟩,by show n - ((k:Int)+1).toNat < n - (k:Int).toNat;omega⟩
  ·obtain rfl:k=n:=by omega
   have hk1:¬ ((k:Int) < (k:Int)):=by omega
   have HMF:=zh (HM1.out.trans HM.out)
   have HFI:=zh (show xs.take k=xs by rw [HNX.out];exact List.take_length)
   go_wp2_with fail
   refine fin hR ⟨?_,HMF.out⟩
   show Ending.returned (strV (lockHead++(xs.take k).flatMap fun x=>pinT x.p))=_
   rw [HFI.out]
end Go.Proofs.YtgiigemfbebcgaaGreatDoor
