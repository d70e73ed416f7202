/-
  Layers 0 to 14: helps of the laws of indexes. No statement is proved here; no condition.
-/
import Derived.Test.YtgiigemfbebcgaaGreatDoorT42
import Derived.Test.YtgiigemfbebcgaaGreatDoorT13
import Derived.Test.YtgiigemfbebcgaaGreatDoorT25
import Derived.Test.YtgiigemfbebcgaaGreatDoorT09
import Derived.Test.YtgiigemfbebcgaaGreatDoorT37
import Derived.Test.YtgiigemfbebcgaaGreatDoorT36
namespace Go.Proofs.YtgiigemfbebcgaaGreatDoor
open _root_.Go.Proofs.Tryz
open Go.RowKit
theorem span_info:(prog.info? 79).map (·.size)=some 2:=by kernel_rfl
set_option maxRecDepth 100000 in
set_option maxHeartbeats 16000000 in
theorem needs_eq (l:List Nd) (va vb:Value) (w:World) (ha:NdsAt w va l) (hb:NdsAt w vb l) :
  Calls prog 54 #[va,vb] w fun e w'=>e=.returned (.bool true)/\Mod No w w':=by
 refine calls_hide fun R hR=>?_
 obtain ⟨xa,hxa,hea,hsa⟩:=ha
 obtain ⟨xb,hxb,heb,hsb⟩:=hb
 have hl:=hsa.lenle
 obtain ⟨aa,oc,rfl⟩:=hsa.len
 obtain ⟨ba,qc,rfl⟩:=hsb.len
 have hma:xa.length=l.length:=by have h:=congrArg List.length hxa;rw [List.length_map] at h;exact h
 have hmb:xb.length=l.length:=by have h:=congrArg List.length hxb;rw [List.length_map] at h;exact h
 have HXA:=zh hxa
 have HXB:=zh hxb
 have HEA:=zh hea
 have HEB:=zh heb
 obtain ⟨n,hn⟩:∃ n,n=l.length:=⟨_,rfl⟩
 rw [<- hn] at hsa hsb hl hma hmb ⊢
 have HSA:=zh hsa
 have HSB:=zh hsb
 have HN:=zh hn
 have HMA:=zh hma
 have HMB:=zh hmb
 clear hxa hxb hea heb hsa hsb hn hma hmb
 go_enter func54,ntmps54
 go_wp2_with fail
 go_loopw [5] (fun q wr=>∃ k:Nat,k<=n/\q=.int .i64 (k:Int)/\Mod No w wr) (fun q _=>n - (intOf q).toNat)
 case atStart=>exact ⟨0,by omega,rfl,Mod.refl _ _⟩
 case round =>
  obtain ⟨k,hk,rfl,hm⟩:=hrel
  have HM:=zh hm
  have hk0:(0:Int)<=(k:Int):=Int.natCast_nonneg _
  clear hm
  by_cases hlt:k < n
  ·have hk1:(k:Int) < (n:Int):=by omega
   have hkl:k < l.length:=by rw [<- HN.out];exact hlt
   obtain ⟨ab,ao,c1,hvs,_⟩:=HSA.out.shape (by omega)
   have haa:aa=some ⟨ab,ao,none⟩:=by cases hvs;rfl
   subst haa
   obtain ⟨bb,bo,c2,hvs2,_⟩:=HSB.out.shape (by omega)
   have hba:ba=some ⟨bb,bo,none⟩:=by cases hvs2;rfl
   subst hba
   obtain ⟨hja,e1⟩:=map_get HXA.out hkl
   obtain ⟨hjb,e2⟩:=map_get HXB.out hkl
   have r1:w.rangeAt ab (ao+k*4) (NdX.cells xa[k]):=Sl.at NdX.cells_length (by have h:=HSA.out;rw [<- HMA.out] at h;exact h) hja
   have r2:w.rangeAt bb (bo+k*4) (NdX.cells xb[k]):=Sl.at NdX.cells_length (by have h:=HSB.out;rw [<- HMB.out] at h;exact h) hjb
   have p1:=HEA.out _ (List.getElem_mem hja)
   have p2:=HEB.out _ (List.getElem_mem hjb)
   have he:(xa[k]'hja).n=(xb[k]'hjb).n:=e1.trans e2.symm
   generalize xa[k]=x1 at r1 p1 he
   generalize xb[k]=x2 at r2 p2 he
   obtain ⟨⟨nm,⟨any,ors⟩,tx⟩,pa0⟩:=x1
   obtain ⟨b2,pb0⟩:=x2
   obtain rfl:(⟨nm,⟨any,ors⟩,tx⟩:Nd)=b2:=he
   dsimp only at p1 p2
   have HV0:=zh (fun W (hm:Mod No w W)=>span_eq any ors pa0 pb0 W (p1.keep hm (Apart.no _ _)) (p2.keep hm (Apart.no _ _)))
   obtain ⟨pa,pn,pc,hpa⟩:∃ a m c,pa0=.slice a m c:=by obtain ⟨_,-,-,h⟩:=p1;obtain ⟨a,c,h⟩:=h.len;exact ⟨_,_,_,h⟩
   obtain ⟨pb,pm,pd,hpb⟩:∃ a m c,pb0=.slice a m c:=by obtain ⟨_,-,-,h⟩:=p2;obtain ⟨a,c,h⟩:=h.len;exact ⟨_,_,_,h⟩
   subst hpa
   subst hpb
   have R1:=zh r1
   have R2:=zh r2
   obtain ⟨ZN,hZN⟩:∃ Z:ByteArray,Z=⟨nm.toArray⟩:=⟨_,rfl⟩
   obtain ⟨ZT,hZT⟩:∃ Z:ByteArray,Z=⟨tx.toArray⟩:=⟨_,rfl⟩
   have HZN:=zh hZN
   have HZT:=zh hZT
   clear e1 e2 r1 r2 p1 p2 hvs hvs2 hZN hZT
   go_upto_region 6 with fail
   obtain ⟨wD,hwD⟩:∃ x,x=wr.drew:=⟨_,rfl⟩
   have HMD:=zh (show Mod No w wD by rw [hwD];exact HM.out.drew)
   have HSM:=zh (show ∀ w',Mod No wD w'->w'.cell? ⟨ab,ao+k*4,none⟩=some (.string ZN)/\w'.cell? ⟨bb,bo+k*4,none⟩=some (.string ZN)/\w'.cell? ⟨ab,ao+k*4+3,none⟩=some (.string ZT)/\w'.cell? ⟨bb,bo+k*4+3,none⟩=some (.string ZT) ∧
     w'.rangeAt ab (ao+k*4+1) [.bool any,.slice pa pn pc]/\w'.rangeAt bb (bo+k*4+1) [.bool any,.slice pb pm pd] from fun w' h=>by
    have h3:=HMD.out.trans h
    refine ⟨?_,?_,?_,?_,?_,?_⟩
    ·rw [HZN.out];exact h3.cell (R1.out 0 _ rfl) (fun f=>f)
    ·rw [HZN.out];exact h3.cell (R2.out 0 _ rfl) (fun f=>f)
    ·rw [HZT.out];exact h3.cell (R1.out 3 _ rfl) (fun f=>f)
    ·rw [HZT.out];exact h3.cell (R2.out 3 _ rfl) (fun f=>f)
    ·exact h3.rangeAt (rangeAt_part (p:=[strV nm]) (q:=[.bool any,.slice pa pn pc]) (r:=[strV tx]) R1.out) (fun f=>f)
    ·exact h3.rangeAt (rangeAt_part (p:=[strV nm]) (q:=[.bool any,.slice pb pm pd]) (r:=[strV tx]) R2.out) (fun f=>f))
   have HVE:=zh (show ∀ W,Mod No wD W->Calls prog 88 #[.agg #[.bool any,.slice pa pn pc],.agg #[.bool any,.slice pb pm pd]] W fun e w'=>e=.returned (.bool true)/\Mod No W w' from fun W hm=>HV0.out W (HMD.out.trans hm))
   have HWD:=zh hwD
   have hS0:=Mod.refl No wD
   clear hwD
   refine wp_region_T (fun w'=>Mod No wD w') 99 (by kernel_rfl) ?_
   rw [<- HWD.out]
   refine yT 0 (some 17) ?_ hS0 ?_ ?_
   rotate_left
   ·(intro w' hSw;go_simp;try with_reducible rfl)
   simp only [Act.put,yB,yC,yD]
   refine yT 1 (some 18) ?_ hS0 ?_ ?_
   rotate_left
   ·(intro w' hSw;go_simp;try with_reducible rfl)
   simp only [Act.put,yB,yC,yD]
   refine yT 2 (some 19) ?_ hS0 ?_ ?_
   rotate_left
   ·(intro w' hSw;go_simp;try with_reducible rfl)
   simp only [Act.put,yB,yC,yD]
   refine yT 3 (some 20) ?_ hS0 ?_ ?_
   rotate_left
   ·(intro w' hSw;go_simp;try with_reducible rfl)
   simp only [Act.put,yB,yC,yD]
   refine yT 4 (some 21) (.string ZN) hS0 ?_ ?_
   ·(intro w' hSw;have q0:=(HSM.out w' hSw).1;go_simp;try with_reducible rfl)
   simp only [Act.put,yB,yC,yD]
   refine yT 5 (some 22) ?_ hS0 ?_ ?_
   rotate_left
   ·(intro w' hSw;go_simp;try with_reducible rfl)
   simp only [Act.put,yB,yC,yD]
   refine yT 6 (some 23) ?_ hS0 ?_ ?_
   rotate_left
   ·(intro w' hSw;go_simp;try with_reducible rfl)
   simp only [Act.put,yB,yC,yD]
   refine yT 7 (some 24) ?_ hS0 ?_ ?_
   rotate_left
   ·(intro w' hSw;go_simp;try with_reducible rfl)
   simp only [Act.put,yB,yC,yD]
   refine yT 8 (some 25) ?_ hS0 ?_ ?_
   rotate_left
   ·(intro w' hSw;go_simp;try with_reducible rfl)
   simp only [Act.put,yB,yC,yD]
   refine yT 9 (some 26) (.string ZN) hS0 ?_ ?_
   ·(intro w' hSw;have q0:=(HSM.out w' hSw).2.1;go_simp;try with_reducible rfl)
   simp only [Act.put,yB,yC,yD]
   refine yT 10 (some 27) ?_ hS0 ?_ ?_
   rotate_left
   ·(intro w' hSw;go_simp;try with_reducible rfl)
   simp only [Act.put,yB,yC,yD]
   refine yT 11 (some 28) ?_ hS0 ?_ ?_
   rotate_left
   ·(intro w' hSw;go_simp;try with_reducible rfl)
   simp only [Act.put,yB,yC,yD]
   refine yT 12 (some 29) ?_ hS0 ?_ ?_
   rotate_left
   ·(intro w' hSw;go_simp;try with_reducible rfl)
   simp only [Act.put,yB,yC,yD]
   refine yT 13 (some 30) ?_ hS0 ?_ ?_
   rotate_left
   ·(intro w' hSw;go_simp;try with_reducible rfl)
   simp only [Act.put,yB,yC,yD]
   refine yT 14 (some 31) ?_ hS0 ?_ ?_
   rotate_left
   ·(intro w' hSw;go_simp;try with_reducible rfl)
   simp only [Act.put,yB,yC,yD]
   refine yT 15 (some 32) ?_ hS0 ?_ ?_
   rotate_left
   ·(intro w' hSw;go_simp;try with_reducible rfl)
   simp only [Act.put,yB,yC,yD]
   refine yT 16 (some 33) (.string ZT) hS0 ?_ ?_
   ·(intro w' hSw;have q0:=(HSM.out w' hSw).2.2.1;go_simp;try with_reducible rfl)
   simp only [Act.put,yB,yC,yD]
   refine yT 17 (some 34) ?_ hS0 ?_ ?_
   rotate_left
   ·(intro w' hSw;go_simp;try with_reducible rfl)
   simp only [Act.put,yB,yC,yD]
   refine yT 18 (some 35) ?_ hS0 ?_ ?_
   rotate_left
   ·(intro w' hSw;go_simp;try with_reducible rfl)
   simp only [Act.put,yB,yC,yD]
   refine yT 19 (some 36) ?_ hS0 ?_ ?_
   rotate_left
   ·(intro w' hSw;go_simp;try with_reducible rfl)
   simp only [Act.put,yB,yC,yD]
   refine yT 20 (some 37) ?_ hS0 ?_ ?_
   rotate_left
   ·(intro w' hSw;go_simp;try with_reducible rfl)
   simp only [Act.put,yB,yC,yD]
   refine yT 21 (some 38) (.string ZT) hS0 ?_ ?_
   ·(intro w' hSw;have q0:=(HSM.out w' hSw).2.2.2.1;go_simp;try with_reducible rfl)
   simp only [Act.put,yB,yC,yD]
   refine yT 22 (some 39) ?_ hS0 ?_ ?_
   rotate_left
   ·(intro w' hSw;go_simp;try with_reducible rfl)
   simp only [Act.put,yB,yC,yD]
   refine yT 23 (some 40) ?_ hS0 ?_ ?_
   rotate_left
   ·(intro w' hSw;go_simp;try with_reducible rfl)
   simp only [Act.put,yB,yC,yD]
   refine yT 24 (some 41) ?_ hS0 ?_ ?_
   rotate_left
   ·(intro w' hSw;go_simp;try with_reducible rfl)
   simp only [Act.put,yB,yC,yD]
   refine yT 25 (some 42) ?_ hS0 ?_ ?_
   rotate_left
   ·(intro w' hSw;go_simp;try with_reducible rfl)
   simp only [Act.put,yB,yC,yD]
   refine yT 26 (some 43) ?_ hS0 ?_ ?_
   rotate_left
   ·(intro w' hSw;go_simp;try with_reducible rfl)
   simp only [Act.put,yB,yC,yD]
   refine yT 27 (some 44) ?_ hS0 ?_ ?_
   rotate_left
   ·(intro w' hSw;go_simp;try with_reducible rfl)
   simp only [Act.put,yB,yC,yD]
   refine yT 28 (some 45) ?_ hS0 ?_ ?_
   rotate_left
   ·(intro w' hSw;go_simp;try with_reducible rfl)
   simp only [Act.put,yB,yC,yD]
   refine yT 29 (some 46) (.agg #[.bool any,.slice pa pn pc]) hS0 ?_ ?_
   ·(intro w' hSw;apply yloadv (run_loadVar_mid w' ab (ao+k*4+1) 79 [.bool any,.slice pa pn pc] _ (HSM.out w' hSw).2.2.2.2.1 underlying79 rfl span_info) (.tmp 45) <;> rfl)
   simp only [Act.put,yB,yC,yD]
   refine yT 30 (some 47) ?_ hS0 ?_ ?_
   rotate_left
   ·(intro w' hSw;go_simp;try with_reducible rfl)
   simp only [Act.put,yB,yC,yD]
   refine yT 31 (some 48) ?_ hS0 ?_ ?_
   rotate_left
   ·(intro w' hSw;go_simp;try with_reducible rfl)
   simp only [Act.put,yB,yC,yD]
   refine yT 32 (some 49) ?_ hS0 ?_ ?_
   rotate_left
   ·(intro w' hSw;go_simp;try with_reducible rfl)
   simp only [Act.put,yB,yC,yD]
   refine yT 33 (some 50) ?_ hS0 ?_ ?_
   rotate_left
   ·(intro w' hSw;go_simp;try with_reducible rfl)
   simp only [Act.put,yB,yC,yD]
   refine yT 34 (some 51) (.agg #[.bool any,.slice pb pm pd]) hS0 ?_ ?_
   ·(intro w' hSw;apply yloadv (run_loadVar_mid w' bb (bo+k*4+1) 79 [.bool any,.slice pb pm pd] _ (HSM.out w' hSw).2.2.2.2.2 underlying79 rfl span_info) (.tmp 50) <;> rfl)
   simp only [Act.put,yB,yC,yD]
   refine wpAnyT_oneW 35 rfl (by kernel_rfl) (by rfl) ?_
   intro K hK
   go_simp
   go_at_call 88
   with_reducible refine (HVE.out _ hS0).mono ?_
   rintro e wE ⟨rfl,hmE⟩
   have HME:=zh hmE
   clear hmE
   show K _ _
   have hS1:=HME.out
   refine hK.out _ _ (fun _=>hS1) ?_
   clear hK K
   refine yT 36 (some 53) ?_ hS1 ?_ ?_
   rotate_left
   ·(intro w' hSw;go_simp;try with_reducible rfl)
   simp only [Act.put,yB,yC,yD]
   refine yT 37 (some 54) ?_ hS1 ?_ ?_
   rotate_left
   ·(intro w' hSw;go_simp;try with_reducible rfl)
   simp only [Act.put]
   refine wpAnyT_done (by kernel_rfl) ?_ _
   clear hS0 hS1
   go_wp2_with fail
   exact ⟨⟨k+1,by omega,rfl,HMD.out.trans HME.out⟩,by show n - ((k:Int)+1).toNat < n - (k:Int).toNat;omega⟩
  ·obtain rfl:k=n:=by omega
   have hk1:¬ ((k:Int) < (k:Int)):=by omega
   go_wp2_with fail
   exact fin hR ⟨rfl,HM.out⟩
theorem vr_head (g o n c k:Nat) (hk:k<=n) (hn:n<=c) (W:World):(Instr.sliceAt 53 (.slice (some ⟨g,o,none⟩) n c) none (some (.int .i64 (k:Int))) (some (.int .i64 (k:Int)))).run prog W=.ok (.slice (some ⟨g,o,none⟩) k k) W:=by
 have h1:(0:Int)<=(k:Int):=Int.natCast_nonneg _
 have h2:(k:Int)<=(c:Int):=by omega
 go_simp
theorem vr_tail (g o n c k:Nat) (hk:k<=n) (hn:n<=c) (W:World):(Instr.sliceAt 53 (.slice (some ⟨g,o,none⟩) n c) (some (.int .i64 (k:Int))) none none).run prog W=.ok (.slice (some ⟨g,if c=k then o else o+k*4,none⟩) (n - k) (c - k)) W:=by
 have h1:(0:Int)<=(k:Int):=Int.natCast_nonneg _
 have h2:(k:Int)<=(n:Int):=by omega
 have h3:(n:Int)<=(c:Int):=by omega
 go_simp
 split <;> rfl
theorem vr_nil (W:World):(Instr.sliceAt 53 (.slice none 0 0) none (some (.int .i64 ((0:Nat):Int))) (some (.int .i64 ((0:Nat):Int)))).run prog W=.ok (.slice none 0 0) W/\(Instr.sliceAt 53 (.slice none 0 0) (some (.int .i64 ((0:Nat):Int))) none none).run prog W=.ok (.slice none 0 0) W:=⟨by go_simp,by go_simp⟩
theorem vr_parts {w:World} {v:Value} {n:Nat} {xs:List Value} (h:Sl w No 40 v n xs) (hx:xs.length=n*4) {k:Nat} (hk:k<=n) :
  ∃ sv tv,(∀ W:World,(Instr.sliceAt 53 v none (some (.int .i64 (k:Int))) (some (.int .i64 (k:Int)))).run prog W=.ok sv W)/\(∀ W:World,(Instr.sliceAt 53 v (some (.int .i64 (k:Int))) none none).run prog W=.ok tv W) ∧
   ((sv=.slice none 0 0/\k=0/\xs.take (k*4)=[])\/∃ a0,sv=.slice (some a0) k k/\(xs.take (k*4)).length=k*4/\∀ j u,(xs.take (k*4))[j]? = some u->w.cell? (a0.add j)=some u) ∧
   Sl w No 40 tv (n - k) (xs.drop (k*4))/\(xs.drop (k*4)).length=(n - k)*4:=by
 have hld:(xs.drop (k*4)).length=(n - k)*4:=by rw [List.length_drop,hx];omega
 rcases h with ⟨rfl,rfl,rfl⟩ | ⟨g,o,c,cur,fz,rfl,hn,hc,hX,hh,hl,hr⟩
 ·obtain rfl:k=0:=by omega
  exact ⟨.slice none 0 0,.slice none 0 0,fun W=>(vr_nil W).1,fun W=>(vr_nil W).2,.inl ⟨rfl,rfl,rfl⟩,.inl ⟨rfl,rfl,rfl⟩,hld⟩
 ·refine ⟨_,_,vr_head g o n c k hk hn,vr_tail g o n c k hk hn,.inr ⟨_,rfl,by rw [List.length_take,hx];omega,fun j u e=>?_⟩,.inr ⟨g,if c=k then o else o+k*4,c - k,cur,fz,rfl,by omega,by omega,fun f=>f,hh,?_,fun i hi=>?_⟩,hld⟩
  ·have hj:=(List.getElem?_eq_some_iff.1 e).1
   rw [List.length_take] at hj
   rw [List.getElem?_take,if_pos (by omega)] at e
   rw [Addr.add_mid]
   exact cell_ofA hh ((hr j (by omega)).trans e)
  ·rw [hld]
   split
   ·have:n - k=0:=by omega
    rw [this];omega
   ·omega
  ·rw [hld] at hi
   rw [if_neg (by intro e;have:n - k=0:=(by omega);rw [this] at hi;omega),List.getElem?_drop,<- hr (k*4+i) (by omega),Nat.add_assoc]
set_option maxRecDepth 100000 in
theorem vr_new {w:World} {cs:List Value} {o:Oper} {ρ:Operand->Value} (hc:cs.length=4) (x:Operand) (ho:o.op=.buildSlice 53 1 #[(0,x)]) (hx:ρ x=.agg cs.toArray) :
  (execOp ρ o).run prog w=.ok (.value (.slice (some ⟨w.heap.size,0,none⟩) 1 1)) (w.alloc (.cells cs.toArray 40)):=by
 obtain ⟨i0,hi,hz0,hz1,hz2⟩:=info_parts info_vr
 have h:=run_buildSlice (P:=prog) w 53 40 1 #[(0,.agg cs.toArray)] cs.toArray i0 _ underlying53 hi hz0 (by rw [hz1];omega) (by rw [hz1];omega) (by
  rw [hz1]
  have h2:=Great.fill_whole (s:=4) (by decide) [Value.agg cs.toArray] ((Array.range (1*4)).map ((Value.agg #[.int .i64 0,.int .i64 0,.int .i64 0,.slice none 0 0]).cells[· % (Value.agg #[.int .i64 0,.int .i64 0,.int .i64 0,.slice none 0 0]).cells.size]!)) (fun v hv=>by
   simp at hv
   subst hv
   show cs.toArray.size=4
   simp [hc]) (by simp)
  have h3:[Value.agg cs.toArray].flatMap (fun v=>v.cells.toList)=cs:=by
   show cs.toArray.toList++[]=cs
   simp
  rw [h3] at h2
  exact h2)
 unfold execOp
 simp only [ho,List.map_toArray,List.map_cons,List.map_nil,hx,Sem.run_bind]
 erw [h]
 rfl
set_option maxRecDepth 100000 in
set_option maxHeartbeats 16000000 in
theorem refversions_any (xs:List RwX) (hl:xs.length<=1000000) (name:List UInt8) (v:Value) (w:World) (hx:∀ x ∈ xs,RwOk w x) (hv:Sl w No 46 v xs.length (xs.flatMap RwX.cells)) :
  Calls prog 23 #[v,strV name] w fun e w'=>∃ v',e=.returned v'/\VrsAt w' v' (sortR ltVx (versOf name xs))/\Mod No w w':=by
 refine calls_hide fun R hR=>?_
 have HX:=zh hx
 obtain ⟨va,vc,rfl⟩:=hv.len
 obtain ⟨n,hn⟩:∃ n,n=xs.length:=⟨_,rfl⟩
 rw [<- hn] at hl ⊢
 have HN:=zh hn
 have HV:=zh (show Sl w No 46 (.slice va n vc) n (xs.flatMap RwX.cells) by rw [hn];exact hv)
 obtain ⟨i0,hi0,hz0,hz1,hz2⟩:=info_parts info_vr
 have HI:=zh (And.intro hi0 (And.intro hz0 (And.intro hz1 hz2)))
 have HEA:=zh (show ∀ k,∀ y ∈ versOf name (xs.take k),Small y.v/\Sl w No 9 y.pv y.v.pre.length (strs y.v.pre) from fun k y hy=>by
  unfold versOf at hy
  obtain ⟨x,hx2,rfl⟩:=List.mem_map.1 hy
  have h:=hx x (List.mem_of_mem_take (List.mem_filter.1 hx2).1)
  exact ⟨h.small,h.pre⟩)
 obtain ⟨ZM,hZM⟩:∃ Z:ByteArray,Z=⟨name.toArray⟩:=⟨_,rfl⟩
 have HZM:=zh hZM
 unfold strV
 rw [<- hZM]
 clear hi0 hz0 hz1 hz2 hx hv hn hZM
 go_enter func23,ntmps23
 go_wp2_with fail
 go_loopw [5,6,7] (fun q5 q6 q7 wr=>∃ (k m:Nat) (v:Value),k<=n/\q6=.int .i64 (k:Int)/\q5=v/\m=(sortR ltVx (versOf name (xs.take k))).length/\m<=k/\wr.ownsRow w.heap.size 40 4 v m ((sortR ltVx (versOf name (xs.take k))).flatMap VrX.cells)/\Mod No w wr) (fun _ q _ _=>n - (intOf q).toNat)
 case atStart=>exact ⟨0,0,.slice none 0 0,by omega,rfl,rfl,rfl,by omega,⟨rfl,.inl ⟨rfl,rfl⟩⟩,Mod.refl _ _⟩
 case round =>
  obtain ⟨k,m,v,hk,rfl,rfl,hmm,hmk,hown,hm⟩:=hrel
  have HM:=zh hm
  have HO:=zh hown
  have HMM:=zh hmm
  have hk0:(0:Int)<=(k:Int):=Int.natCast_nonneg _
  obtain ⟨sa,sc,hsv⟩:=own_len hown
  subst hsv
  clear hm hown hmm
  by_cases hlt:k < n
  ·have hk1:(k:Int) < (n:Int):=by omega
   have hkl:k < xs.length:=by rw [<- HN.out];exact hlt
   obtain ⟨b,o,c,hvs,_⟩:=HV.out.shape (by omega)
   have hva:va=some ⟨b,o,none⟩:=by cases hvs;rfl
   subst hva
   have HVT:=zh (versOf_take (name:=name) hkl)
   have HXK:=zh (HX.out _ (List.getElem_mem hkl))
   have HRG:=zh (show w.rangeAt b (o+k*39) (RwX.cells xs[k]) from Sl.atM (fun x hx=>RwX.cells_length x (HX.out x hx).sum) HV.out hkl)
   generalize xs[k]=y at *
   have hc1:=HM.out.cell (HRG.out 0 (strV y.r.name) rfl) (fun f=>f)
   have hT1:=str_list y.r.name
   have hT2:ZM.toList=name:=by rw [HZM.out];exact str_list name
   unfold strV at hc1
   rw [Nat.add_zero] at hc1
   by_cases he:y.r.name=name
   ·have hbe:((⟨y.r.name.toArray⟩:ByteArray).toList == ZM.toList)=true:=by rw [hT1,hT2,he];simp
    rw [if_pos he] at HVT
    generalize (⟨y.r.name.toArray⟩:ByteArray)=ZY at *
    clear hT1 hT2 he hvs
    have HES:=zh (show ∀ z ∈ sortR ltVx (versOf name (xs.take k)),Small z.v/\Sl w No 9 z.pv z.v.pre.length (strs z.v.pre) from fun z hz=>HEA.out k z ((sortR_mem _ _ _).1 hz))
    have HST:=zh (show sortR ltVx (versOf name (xs.take (k+1)))=insR (ltVx ⟨y.r.v,y.pv⟩) ⟨y.r.v,y.pv⟩ (sortR ltVx (versOf name (xs.take k))) by rw [HVT.out,sortR_snoc])
    generalize sortR ltVx (versOf name (xs.take k))=S at *
    have HYV:=zh (show w.rangeAt b (o+k*39+1) (verCs y.r.v y.pv) from rangeAt_part (p:=[strV y.r.name]) (q:=verCs y.r.v y.pv) (r:=bv y.r.sum++[.int .i64 y.r.size,y.nv]) (by rw [List.append_assoc];exact HRG.out))
    go_wp2_with fail
    generalize wr=wo at *
    go_loopw [7] (fun q wi=>∃ j:Nat,j<=m/\q=.int .i64 (j:Int)/\Mod No wo wi/\∀ i (hi:i < S.length),j<=i->ltVx ⟨y.r.v,y.pv⟩ S[i]=true) (fun q _=>(intOf q).toNat)
    case atStart=>exact ⟨m,by omega,rfl,Mod.refl _ _,fun i hi h=>absurd hi (by have:=HMM.out;omega)⟩
    case round =>
     obtain ⟨j,hj,rfl,hmi,hgt⟩:=hrel
     have HMI:=zh hmi
     have HGT:=zh hgt
     have hj0:(0:Int)<=(j:Int):=Int.natCast_nonneg _
     have HBB:=zh (show ∀ y2 ∈ S.drop j,ltVx ⟨y.r.v,y.pv⟩ y2=true from fun y2 hy=>by
      obtain ⟨i,hi,rfl⟩:=List.getElem_of_mem hy
      rw [List.getElem_drop]
      exact HGT.out (j+i) (by rw [List.length_drop] at hi;omega) (by omega))
     clear hmi hgt
     rcases j with _ | q
     ·have hkn:decide ((0:Int) < 0)=false:=by decide
      have hkn2:decide ((0:Nat) < 0)=false:=by decide
      have HAA:=zh (show S.take 0=[]\/∃ C z2,S.take 0=C++[z2]/\ltVx ⟨y.r.v,y.pv⟩ z2=false from .inl rfl)
      go_upto_region 7 with fail
      go_quiet (fail)
      generalize hw3:World.drewN wr _=w3
      have HM3:=zh (show Mod No wo w3 by rw [<- hw3];exact HMI.out.drewN _)
      clear hw3 hkn hkn2
      have HIS:=zh (insR_scan (p:=ltVx ⟨y.r.v,y.pv⟩) (x:=(⟨y.r.v,y.pv⟩:VrX)) (A:=S.take (0)) (B:=S.drop (0)) HBB.out HAA.out)
      rw [List.take_append_drop] at HIS
      have HFS:=zh (show (S.flatMap VrX.cells).length=m*4 by rw [flat_length VrX.cells_length,<- HMM.out])
      obtain ⟨sv,tv,hsv,htv,hsc,hts,hld⟩:=vr_parts (k:=0) (Sl.of_own (X:=No) (own_keepM HO.out (HM3.out.drew) (fun _ _ f=>f)) (fun _ _ f=>f)) HFS.out (by omega)
      have HSV:=zh hsv
      have HTV:=zh htv
      obtain ⟨hi0,hz0,hz1,hz2⟩:=HI.out
      obtain ⟨cx,hcx⟩:∃ cx,cx=VrX.cells ⟨y.r.v,y.pv⟩:=⟨_,rfl⟩
      have HXC:=zh hcx
      have HC:=zh (show cx.length=4 by rw [hcx];rfl)
      have HFX:=zh (show (S.flatMap VrX.cells).take ((0)*4)++(cx++(S.flatMap VrX.cells).drop ((0)*4))=(sortR ltVx (versOf name (xs.take (k+1)))).flatMap VrX.cells by
       rw [HST.out,HIS.out,List.flatMap_append,List.flatMap_cons,flat_takeM (fun y2 _=>VrX.cells_length y2),flat_dropM (fun y2 _=>VrX.cells_length y2),HXC.out])
      have HLN:=zh (show m+1=(sortR ltVx (versOf name (xs.take (k+1)))).length by rw [HST.out,insR_length,<- HMM.out])
      obtain ⟨wD,hwD⟩:∃ y,y=w3.drew:=⟨_,rfl⟩
      rw [<- hwD] at hsc hts
      have HSC:=zh hsc
      have HTS:=zh hts
      have HLD:=zh hld
      have H1D:=zh (show ∀ u ∈ (S.flatMap VrX.cells).drop ((0)*4),u.oneCell'=true from fun u hu=>by
       obtain ⟨y2,hy2,hu⟩:=List.mem_flatMap.1 (List.mem_of_mem_drop hu)
       exact vr_one y2 (by obtain ⟨p,c,e⟩:=(HES.out y2 hy2).2.len;exact ⟨p,_,c,e⟩) u hu)
      have HMD:=zh (show Mod No w wD by rw [hwD];exact HM.out.trans HM3.out.drew)
      have HRG2:=zh (show ∀ w',Mod No wD w'->w'.rangeAt b (o+k*39+1) cx from fun w' h=>by rw [HXC.out];exact (HMD.out.trans h).rangeAt HYV.out (fun f=>f))
      have HBD:=zh HMD.out.size
      have HWD:=zh hwD
      have hS0:=Mod.refl No wD
      generalize hXS:S.flatMap VrX.cells=XS at *
      clear hsv htv hsc hts hld hwD hXS hcx
      go_upto_region 9 with fail
      refine wp_region_T (fun w'=>Mod No wD w') 99 (by kernel_rfl) ?_
      rw [<- HWD.out]
      refine yT 0 (some 41) ?_ hS0 ?_ ?_
      rotate_left
      ·(intro w' hSw;go_simp;try with_reducible rfl)
      simp only [Act.put,yB,yC,yD]
      refine yT 1 (some 42) ?_ hS0 ?_ ?_
      rotate_left
      ·(intro w' hSw;go_simp;try with_reducible rfl)
      simp only [Act.put,yB,yC,yD]
      refine yT 2 (some 43) ?_ hS0 ?_ ?_
      rotate_left
      ·(intro w' hSw;go_simp;try with_reducible rfl)
      simp only [Act.put,yB,yC,yD]
      refine yT 3 (some 44) sv hS0 ?_ ?_
      ·(intro w' hSw;apply yslice3 (HSV.out w') (.tmp 41) (.tmp 42) (.tmp 43) <;> rfl)
      simp only [Act.put,yB,yC,yD]
      refine yT 4 (some 45) ?_ hS0 ?_ ?_
      rotate_left
      ·(intro w' hSw;go_simp;try with_reducible rfl)
      simp only [Act.put,yB,yC,yD]
      refine yT 5 (some 46) ?_ hS0 ?_ ?_
      rotate_left
      ·(intro w' hSw;go_simp;try with_reducible rfl)
      simp only [Act.put,yB,yC,yD]
      refine yT 6 (some 47) ?_ hS0 ?_ ?_
      rotate_left
      ·(intro w' hSw;go_simp;try with_reducible rfl)
      simp only [Act.put,yB,yC,yD]
      refine yT 7 (some 48) ?_ hS0 ?_ ?_
      rotate_left
      ·(intro w' hSw;go_simp;try with_reducible rfl)
      simp only [Act.put,yB,yC,yD]
      refine yT 8 (some 49) (.agg cx.toArray) hS0 ?_ ?_
      ·(intro w' hSw;apply yloadv (run_loadVar_mid w' b (o+k*39+1) 40 cx _ (HRG2.out w' hSw) underlying40 rfl (by rw [HC.out];exact ver_info)) (.tmp 48) <;> rfl)
      simp only [Act.put,yB,yC,yD]
      refine yT 10 (some 51) ?_ hS0 ?_ ?_
      rotate_left
      ·(intro w' hSw;go_simp;try with_reducible rfl)
      simp only [Act.put,yB,yC,yD]
      refine yT 11 (some 52) ?_ hS0 ?_ ?_
      rotate_left
      ·(intro w' hSw;go_simp;try with_reducible rfl)
      simp only [Act.put,yB,yC,yD]
      refine yT 12 (some 53) tv hS0 ?_ ?_
      ·(intro w' hSw;apply yslice1 (HTV.out w') (.tmp 51) (.tmp 52) <;> rfl)
      simp only [Act.put,yB,yC,yD]
      refine wpAnyT_one 9 rfl (by kernel_rfl) rfl ?_
      intro K hK
      obtain ⟨ga,hga⟩:∃ ga,ga=wD.heap.size:=⟨_,rfl⟩
      obtain ⟨wD_9,hwD_9⟩:∃ y,y=wD.alloc (.cells cx.toArray 40):=⟨_,rfl⟩
      have HGA:=zh (show wD_9.heap[ga]? = some (.cells cx.toArray 40 (0,0)) by rw [hwD_9,hga];exact heap_alloc_new _ _)
      have hmwD_9:Mod No wD wD_9:=by rw [hwD_9];exact (Mod.refl No _).alloc _
      have HGL:=zh (show wD.heap.size<=ga by omega)
      refine wp_value (v:=.slice (some ⟨ga,0,none⟩) 1 1) (w':=wD_9) (by rw [hga,hwD_9];apply vr_new HC.out (.tmp 49) <;> rfl) ?_
      clear hwD_9 hga
      show K (Act.put _ (some 50) _) _
      have hS1:=hS0.trans hmwD_9
      refine hK.out _ _ (fun _=>hS1) ?_
      clear hK K
      refine wpAnyT_one 13 rfl (by kernel_rfl) rfl ?_
      intro K hK
      refine wp_app_sl wD_9 (.tmp 50) (.tmp 53) 53 (by rfl) ga 40 i0 _ 4 48 underlying53 hi0 hz0 hz1 hz2 rfl (by decide) (.slice (some ⟨ga,0,none⟩) 1 1) 1 cx (by rfl) ⟨by rw [HC.out],.inr ⟨ga,1,_,rfl,Nat.le_refl _,HGA.out,Nat.le_refl _,by unfold maxLen;omega,by simp [HC.out],by rw [List.toList_toArray,List.take_of_length_le (by rw [HC.out];decide)]⟩⟩ No 40 tv (m - 0) (XS.drop (0*4)) (by rfl) (HTS.out.kn hS1) HLD.out H1D.out (by unfold maxLen;omega) (by omega) (Nat.le_of_lt (lt_of_heap HGA.out)) ?_
      intro v6 w6 hown hg6 _
      obtain ⟨g6,c6,rfl,hg6a⟩:=own_shape hown (by omega)
      have HO6:=zh hown
      have hm6:Mod No wD w6:=hS1.then (Mod.of_grown (S:=fun q=>q=ga) hg6 (fun q e _=>by cases e;rfl)) (fun q hq e=>by have e:q=ga:=e;have h1:=HGL.out;omega)
      have HB6:=zh (show w.heap.size<=w6.heap.size from Nat.le_trans HBD.out hm6.size)
      clear hown hg6
      show K (Act.put _ (some 54) _) _
      have hS2:=hm6
      refine hK.out _ _ (fun _=>hS2) ?_
      clear hK K
      refine wpAnyT_one 14 rfl (by kernel_rfl) rfl ?_
      intro K hK
      refine wp_app_full w6 (.tmp 44) (.tmp 54) 53 (by rfl) w.heap.size 40 i0 _ 4 48 underlying53 hi0 hz0 hz1 hz2 rfl sv 0 (XS.take (0*4)) (by rfl) (by
       rcases HSC.out with h | ⟨a0,h1,h2,h3⟩
       ·exact .inl h
       ·exact .inr ⟨a0,h1,h2,fun j u e=>hS2.cell (h3 j u e) (fun f=>f)⟩) ⟨g6,0,none⟩ (1+(m - 0)) c6 (cx++XS.drop (0*4)) (by rfl) (by omega) HO6.out.1 (fun j u e=>HO6.out.cells (g:=g6) rfl j u e) (by unfold maxLen;omega) (by omega) HB6.out ?_
      intro v7 w7 hown7 hm7
      have HO7:=zh hown7
      clear hown7
      show K (Act.put _ (some 55) _) _
      have hS3:=hS2.trans hm7
      refine hK.out _ _ (fun _=>hS3) ?_
      clear hK K
      refine yT 15 (some 5) ?_ hS3 ?_ ?_
      rotate_left
      ·(intro w' hSw;go_simp;try with_reducible rfl)
      simp only [Act.put]
      refine wpAnyT_done (by kernel_rfl) ?_ _
      have HMF:=zh hS3
      clear hS0 hS1 hS2 hS3
      go_wp2_with fail
      refine ⟨⟨k+1,m+1,v7,by omega,rfl,rfl,HLN.out,by omega,?_,HMD.out.trans HMF.out⟩,by show n - ((k:Int)+1).toNat < n - (k:Int).toNat;omega⟩
      have h9:=HO7.out
      rw [HFX.out,show (0)+(1+(m - (0)))=m+1 by omega] at h9
      exact h9
     ·have hqS:q < S.length:=by have:=HMM.out;omega
      obtain ⟨gs,cs,hvs,hgb⟩:=own_shape HO.out (by omega)
      have hsa:sa=some ⟨gs,0,none⟩:=by cases hvs;rfl
      subst hsa
      have HQ:=zh (show ∀ W,Mod No wo W->W.rangeAt gs (q*4) (VrX.cells S[q]) from fun W hW=>by
       have h:=Sl.at VrX.cells_length (by have h:=Sl.of_own (X:=No) (own_keepM HO.out hW (fun _ _ f=>f)) (fun _ _ f=>f);rw [HMM.out] at h;exact h) hqS
       rw [Nat.zero_add] at h
       exact h)
      have HEZ:=zh (HES.out _ (List.getElem_mem hqS))
      have HGQ:=zh (show ltVx ⟨y.r.v,y.pv⟩ S[q]=true->∀ i (hi:i < S.length),q<=i->ltVx ⟨y.r.v,y.pv⟩ S[i]=true from fun h i hi hiq=>by
       rcases Nat.lt_or_ge q i with h3 | h3
       ·exact HGT.out i hi (by omega)
       ·obtain rfl:i=q:=by omega
        exact h)
      generalize hz:S[q]=z at *
      have HCM0:=zh (fun W (hW:Mod No w W)=>refvercmp_any z.v y.r.v HEZ.out.1 HXK.out.small z.pv y.pv W (HEZ.out.2.kn hW) (HXK.out.pre.kn hW))
      have hq1:(0:Int) < ((q+1:Nat):Int):=by omega
      have hq0:(0:Int)<=(q:Int):=Int.natCast_nonneg _
      have hqm:(q:Int) < (m:Int):=by omega
      have hwq:IntKind.i64.wrap (q:Int)=(q:Int):=by rw [IntKind.wrap_i64];omega
      clear hvs
      go_upto_region 7 with fail
      obtain ⟨wD,hwD⟩:∃ x,x=wr.drew:=⟨_,rfl⟩
      have HMD:=zh (show Mod No wo wD by rw [hwD];exact HMI.out.drew)
      have HSM:=zh (show ∀ w',Mod No wD w'->w'.rangeAt gs (q*4) (VrX.cells z)/\w'.rangeAt b (o+k*39+1) (VrX.cells ⟨y.r.v,y.pv⟩) from fun w' h=>⟨HQ.out w' (HMD.out.trans h),(HM.out.trans (HMD.out.trans h)).rangeAt HYV.out (fun f=>f)⟩)
      have HCM:=zh (show ∀ W,Mod No wD W->Calls prog 29 #[.agg #[.int .i64 z.v.ma,.int .i64 z.v.mi,.int .i64 z.v.pa,z.pv],.agg #[.int .i64 y.r.v.ma,.int .i64 y.r.v.mi,.int .i64 y.r.v.pa,y.pv]] W fun e w'=>e=.returned (.int .i64 (verC z.v y.r.v))/\Mod No W w' from fun W hW=>HCM0.out W (HM.out.trans (HMD.out.trans hW)))
      have HWD:=zh hwD
      have hS0:=Mod.refl No wD
      clear hwD
      refine wp_region_T (fun w'=>Mod No wD w') 99 (by kernel_rfl) ?_
      rw [<- HWD.out]
      refine yT 0 (some 23) ?_ hS0 ?_ ?_
      rotate_left
      ·(intro w' hSw;go_simp;try with_reducible rfl)
      simp only [Act.put,yB,yC,yD]
      refine yT 1 (some 24) ?_ hS0 ?_ ?_
      rotate_left
      ·(intro w' hSw;go_simp;try with_reducible rfl)
      simp only [Act.put,yB,yC,yD]
      refine yT 2 (some 25) ?_ hS0 ?_ ?_
      rotate_left
      ·(intro w' hSw;go_simp;try with_reducible rfl)
      simp only [Act.put,yB,yC,yD]
      refine yT 3 (some 26) ?_ hS0 ?_ ?_
      rotate_left
      ·(intro w' hSw;go_simp;try with_reducible rfl)
      simp only [Act.put,yB,yC,yD]
      refine yT 4 (some 27) ?_ hS0 ?_ ?_
      rotate_left
      ·(intro w' hSw;go_simp;try with_reducible rfl)
      simp only [Act.put,yB,yC,yD]
      refine yT 5 (some 28) ?_ hS0 ?_ ?_
      rotate_left
      ·(intro w' hSw;go_simp;try with_reducible rfl)
      simp only [Act.put,yB,yC,yD]
      refine yT 6 (some 29) ?_ hS0 ?_ ?_
      rotate_left
      ·(intro w' hSw;go_simp;try with_reducible rfl)
      simp only [Act.put,yB,yC,yD]
      refine yT 7 (some 30) (verV z.v z.pv) hS0 ?_ ?_
      ·(intro w' hSw;apply yloadv (run_loadVar_mid w' gs (q*4) 40 (VrX.cells z) _ (HSM.out w' hSw).1 underlying40 rfl ver_info) (.tmp 29) <;> rfl)
      simp only [Act.put,yB,yC,yD]
      refine yT 8 (some 31) ?_ hS0 ?_ ?_
      rotate_left
      ·(intro w' hSw;go_simp;try with_reducible rfl)
      simp only [Act.put,yB,yC,yD]
      refine yT 9 (some 32) ?_ hS0 ?_ ?_
      rotate_left
      ·(intro w' hSw;go_simp;try with_reducible rfl)
      simp only [Act.put,yB,yC,yD]
      refine yT 10 (some 33) ?_ hS0 ?_ ?_
      rotate_left
      ·(intro w' hSw;go_simp;try with_reducible rfl)
      simp only [Act.put,yB,yC,yD]
      refine yT 11 (some 34) ?_ hS0 ?_ ?_
      rotate_left
      ·(intro w' hSw;go_simp;try with_reducible rfl)
      simp only [Act.put,yB,yC,yD]
      refine yT 12 (some 35) (verV y.r.v y.pv) hS0 ?_ ?_
      ·(intro w' hSw;apply yloadv (run_loadVar_mid w' b (o+k*39+1) 40 (VrX.cells ⟨y.r.v,y.pv⟩) _ (HSM.out w' hSw).2 underlying40 rfl ver_info) (.tmp 34) <;> rfl)
      simp only [Act.put,yB,yC,yD]
      refine wpAnyT_oneW 13 rfl (by kernel_rfl) (by rfl) ?_
      intro K hK
      unfold verV
      go_simp
      go_at_call 29
      with_reducible refine (HCM.out _ hS0).mono ?_
      rintro e wE ⟨rfl,hmE⟩
      have HME:=zh hmE
      clear hmE
      show K _ _
      have hS1:=HME.out
      refine hK.out _ _ (fun _=>hS1) ?_
      clear hK K
      refine yT 14 (some 37) ?_ hS1 ?_ ?_
      rotate_left
      ·(intro w' hSw;go_simp;try with_reducible rfl)
      simp only [Act.put,yB,yC,yD]
      refine yT 15 (some 38) ?_ hS1 ?_ ?_
      rotate_left
      ·(intro w' hSw;go_simp;try with_reducible rfl)
      simp only [Act.put]
      refine wpAnyT_done (by kernel_rfl) ?_ _
      have HM3:=zh (HMD.out.trans HME.out)
      clear hS0 hS1
      by_cases hcv:verC z.v y.r.v < 0
      ·have HG2:=zh (HGQ.out (decide_eq_true hcv))
       go_wp2_with fail
       exact ⟨⟨q,by omega,rfl,HM3.out,fun i hi hiq=>HG2.out i hi hiq⟩,by show (q:Int).toNat < ((q+1:Nat):Int).toNat;omega⟩
      ·generalize wE=w3 at *
       have HAA:=zh (show S.take (q+1)=[]\/∃ C z2,S.take (q+1)=C++[z2]/\ltVx ⟨y.r.v,y.pv⟩ z2=false from .inr ⟨S.take q,z,by rw [List.take_succ_eq_append_getElem (by have:=HMM.out;omega),hz],decide_eq_false hcv⟩)
       clear HWD HSM HCM HME HMD
       have HIS:=zh (insR_scan (p:=ltVx ⟨y.r.v,y.pv⟩) (x:=(⟨y.r.v,y.pv⟩:VrX)) (A:=S.take ((q+1))) (B:=S.drop ((q+1))) HBB.out HAA.out)
       rw [List.take_append_drop] at HIS
       have HFS:=zh (show (S.flatMap VrX.cells).length=m*4 by rw [flat_length VrX.cells_length,<- HMM.out])
       obtain ⟨sv,tv,hsv,htv,hsc,hts,hld⟩:=vr_parts (k:=(q+1)) (Sl.of_own (X:=No) (own_keepM HO.out (HM3.out.drew) (fun _ _ f=>f)) (fun _ _ f=>f)) HFS.out (by omega)
       have HSV:=zh hsv
       have HTV:=zh htv
       obtain ⟨hi0,hz0,hz1,hz2⟩:=HI.out
       obtain ⟨cx,hcx⟩:∃ cx,cx=VrX.cells ⟨y.r.v,y.pv⟩:=⟨_,rfl⟩
       have HXC:=zh hcx
       have HC:=zh (show cx.length=4 by rw [hcx];rfl)
       have HFX:=zh (show (S.flatMap VrX.cells).take (((q+1))*4)++(cx++(S.flatMap VrX.cells).drop (((q+1))*4))=(sortR ltVx (versOf name (xs.take (k+1)))).flatMap VrX.cells by
        rw [HST.out,HIS.out,List.flatMap_append,List.flatMap_cons,flat_takeM (fun y2 _=>VrX.cells_length y2),flat_dropM (fun y2 _=>VrX.cells_length y2),HXC.out])
       have HLN:=zh (show m+1=(sortR ltVx (versOf name (xs.take (k+1)))).length by rw [HST.out,insR_length,<- HMM.out])
       obtain ⟨wD,hwD⟩:∃ y,y=w3.drew:=⟨_,rfl⟩
       rw [<- hwD] at hsc hts
       have HSC:=zh hsc
       have HTS:=zh hts
       have HLD:=zh hld
       have H1D:=zh (show ∀ u ∈ (S.flatMap VrX.cells).drop (((q+1))*4),u.oneCell'=true from fun u hu=>by
        obtain ⟨y2,hy2,hu⟩:=List.mem_flatMap.1 (List.mem_of_mem_drop hu)
        exact vr_one y2 (by obtain ⟨p,c,e⟩:=(HES.out y2 hy2).2.len;exact ⟨p,_,c,e⟩) u hu)
       have HMD:=zh (show Mod No w wD by rw [hwD];exact HM.out.trans HM3.out.drew)
       have HRG2:=zh (show ∀ w',Mod No wD w'->w'.rangeAt b (o+k*39+1) cx from fun w' h=>by rw [HXC.out];exact (HMD.out.trans h).rangeAt HYV.out (fun f=>f))
       have HBD:=zh HMD.out.size
       have HWD:=zh hwD
       have hS0:=Mod.refl No wD
       generalize hXS:S.flatMap VrX.cells=XS at *
       clear hsv htv hsc hts hld hwD hXS hcx
       go_upto_region 9 with fail
       refine wp_region_T (fun w'=>Mod No wD w') 99 (by kernel_rfl) ?_
       rw [<- HWD.out]
       refine yT 0 (some 41) ?_ hS0 ?_ ?_
       rotate_left
       ·(intro w' hSw;go_simp;try with_reducible rfl)
       simp only [Act.put,yB,yC,yD]
       refine yT 1 (some 42) ?_ hS0 ?_ ?_
       rotate_left
       ·(intro w' hSw;go_simp;try with_reducible rfl)
       simp only [Act.put,yB,yC,yD]
       refine yT 2 (some 43) ?_ hS0 ?_ ?_
       rotate_left
       ·(intro w' hSw;go_simp;try with_reducible rfl)
       simp only [Act.put,yB,yC,yD]
       refine yT 3 (some 44) sv hS0 ?_ ?_
       ·(intro w' hSw;apply yslice3 (HSV.out w') (.tmp 41) (.tmp 42) (.tmp 43) <;> rfl)
       simp only [Act.put,yB,yC,yD]
       refine yT 4 (some 45) ?_ hS0 ?_ ?_
       rotate_left
       ·(intro w' hSw;go_simp;try with_reducible rfl)
       simp only [Act.put,yB,yC,yD]
       refine yT 5 (some 46) ?_ hS0 ?_ ?_
       rotate_left
       ·(intro w' hSw;go_simp;try with_reducible rfl)
       simp only [Act.put,yB,yC,yD]
       refine yT 6 (some 47) ?_ hS0 ?_ ?_
       rotate_left
       ·(intro w' hSw;go_simp;try with_reducible rfl)
       simp only [Act.put,yB,yC,yD]
       refine yT 7 (some 48) ?_ hS0 ?_ ?_
       rotate_left
       ·(intro w' hSw;go_simp;try with_reducible rfl)
       simp only [Act.put,yB,yC,yD]
       refine yT 8 (some 49) (.agg cx.toArray) hS0 ?_ ?_
       ·(intro w' hSw;apply yloadv (run_loadVar_mid w' b (o+k*39+1) 40 cx _ (HRG2.out w' hSw) underlying40 rfl (by rw [HC.out];exact ver_info)) (.tmp 48) <;> rfl)
       simp only [Act.put,yB,yC,yD]
       refine yT 10 (some 51) ?_ hS0 ?_ ?_
       rotate_left
       ·(intro w' hSw;go_simp;try with_reducible rfl)
       simp only [Act.put,yB,yC,yD]
       refine yT 11 (some 52) ?_ hS0 ?_ ?_
       rotate_left
       ·(intro w' hSw;go_simp;try with_reducible rfl)
       simp only [Act.put,yB,yC,yD]
       refine yT 12 (some 53) tv hS0 ?_ ?_
       ·(intro w' hSw;apply yslice1 (HTV.out w') (.tmp 51) (.tmp 52) <;> rfl)
       simp only [Act.put,yB,yC,yD]
       refine wpAnyT_one 9 rfl (by kernel_rfl) rfl ?_
       intro K hK
       obtain ⟨ga,hga⟩:∃ ga,ga=wD.heap.size:=⟨_,rfl⟩
       obtain ⟨wD_9,hwD_9⟩:∃ y,y=wD.alloc (.cells cx.toArray 40):=⟨_,rfl⟩
       have HGA:=zh (show wD_9.heap[ga]? = some (.cells cx.toArray 40 (0,0)) by rw [hwD_9,hga];exact heap_alloc_new _ _)
       have hmwD_9:Mod No wD wD_9:=by rw [hwD_9];exact (Mod.refl No _).alloc _
       have HGL:=zh (show wD.heap.size<=ga by omega)
       refine wp_value (v:=.slice (some ⟨ga,0,none⟩) 1 1) (w':=wD_9) (by rw [hga,hwD_9];apply vr_new HC.out (.tmp 49) <;> rfl) ?_
       clear hwD_9 hga
       show K (Act.put _ (some 50) _) _
       have hS1:=hS0.trans hmwD_9
       refine hK.out _ _ (fun _=>hS1) ?_
       clear hK K
       refine wpAnyT_one 13 rfl (by kernel_rfl) rfl ?_
       intro K hK
       refine wp_app_sl wD_9 (.tmp 50) (.tmp 53) 53 (by rfl) ga 40 i0 _ 4 48 underlying53 hi0 hz0 hz1 hz2 rfl (by decide) (.slice (some ⟨ga,0,none⟩) 1 1) 1 cx (by rfl) ⟨by rw [HC.out],.inr ⟨ga,1,_,rfl,Nat.le_refl _,HGA.out,Nat.le_refl _,by unfold maxLen;omega,by simp [HC.out],by rw [List.toList_toArray,List.take_of_length_le (by rw [HC.out];decide)]⟩⟩ No 40 tv (m - (q+1)) (XS.drop ((q+1)*4)) (by rfl) (HTS.out.kn hS1) HLD.out H1D.out (by unfold maxLen;omega) (by omega) (Nat.le_of_lt (lt_of_heap HGA.out)) ?_
       intro v6 w6 hown hg6 _
       obtain ⟨g6,c6,rfl,hg6a⟩:=own_shape hown (by omega)
       have HO6:=zh hown
       have hm6:Mod No wD w6:=hS1.then (Mod.of_grown (S:=fun q=>q=ga) hg6 (fun q e _=>by cases e;rfl)) (fun q hq e=>by have e:q=ga:=e;have h1:=HGL.out;omega)
       have HB6:=zh (show w.heap.size<=w6.heap.size from Nat.le_trans HBD.out hm6.size)
       clear hown hg6
       show K (Act.put _ (some 54) _) _
       have hS2:=hm6
       refine hK.out _ _ (fun _=>hS2) ?_
       clear hK K
       refine wpAnyT_one 14 rfl (by kernel_rfl) rfl ?_
       intro K hK
       refine wp_app_full w6 (.tmp 44) (.tmp 54) 53 (by rfl) w.heap.size 40 i0 _ 4 48 underlying53 hi0 hz0 hz1 hz2 rfl sv (q+1) (XS.take ((q+1)*4)) (by rfl) (by
        rcases HSC.out with h | ⟨a0,h1,h2,h3⟩
        ·exact .inl h
        ·exact .inr ⟨a0,h1,h2,fun j u e=>hS2.cell (h3 j u e) (fun f=>f)⟩) ⟨g6,0,none⟩ (1+(m - (q+1))) c6 (cx++XS.drop ((q+1)*4)) (by rfl) (by omega) HO6.out.1 (fun j u e=>HO6.out.cells (g:=g6) rfl j u e) (by unfold maxLen;omega) (by omega) HB6.out ?_
       intro v7 w7 hown7 hm7
       have HO7:=zh hown7
       clear hown7
       show K (Act.put _ (some 55) _) _
       have hS3:=hS2.trans hm7
       refine hK.out _ _ (fun _=>hS3) ?_
       clear hK K
       refine yT 15 (some 5) ?_ hS3 ?_ ?_
       rotate_left
       ·(intro w' hSw;go_simp;try with_reducible rfl)
       simp only [Act.put]
       refine wpAnyT_done (by kernel_rfl) ?_ _
       have HMF:=zh hS3
       clear hS0 hS1 hS2 hS3
       go_wp2_with fail
       refine ⟨⟨k+1,m+1,v7,by omega,rfl,rfl,HLN.out,by omega,?_,HMD.out.trans HMF.out⟩,by show n - ((k:Int)+1).toNat < n - (k:Int).toNat;omega⟩
       have h9:=HO7.out
       rw [HFX.out,show ((q+1))+(1+(m - ((q+1))))=m+1 by omega] at h9
       exact h9
   ·have hbe:((⟨y.r.name.toArray⟩:ByteArray).toList == ZM.toList)=false:=by
     rw [hT1,hT2]
     rcases hb:(y.r.name == name) with _ | _
     ·rfl
     ·exact absurd (eq_of_beq hb) he
    rw [if_neg he,List.append_nil] at HVT
    generalize (⟨y.r.name.toArray⟩:ByteArray)=ZY at *
    clear hT1 hT2 he hvs
    go_wp2_with fail
    exact ⟨⟨k+1,m,_,by omega,rfl,rfl,by rw [HVT.out];exact HMM.out,by omega,by rw [HVT.out];exact HO.out,HM.out⟩,by show n - ((k:Int)+1).toNat < n - (k:Int).toNat;omega⟩
  ·obtain rfl:k=n:=by omega
   have hk1:¬ ((k:Int) < (k:Int)):=by omega
   have HML:=zh (show xs.take k=xs from List.take_of_length_le (by rw [HN.out];exact Nat.le_refl _))
   go_wp2_with fail
   refine fin hR ⟨_,rfl,⟨fun y hy=>?_,?_⟩,HM.out⟩
   ·have h:=HEA.out k y (by rw [HML.out];exact (sortR_mem _ _ _).1 hy)
    exact ⟨h.1,h.2.kn HM.out⟩
   ·have h:=Sl.of_own (X:=No) HO.out (fun _ _ f=>f)
    rw [HMM.out,HML.out] at h
    rw [HMM.out,HML.out]
    exact h
end Go.Proofs.YtgiigemfbebcgaaGreatDoor
