/-
  Layers 0 to 14: helps of the laws of indexes. No statement is proved here; no condition.
-/
import Derived.Test.YtgiigemfbebcgaaGreatDoorT02
import Derived.Test.YtgiigemfbebcgaaGreatDoorT30
import Derived.Test.YtgiigemfbebcgaaGreatDoorT14
import Derived.Test.YtgiigemfbebcgaaGreatDoorT09
import Derived.Test.YtgiigemfbebcgaaGreatDoorT01
import Derived.ChangeKeysEq
namespace Go.Proofs.YtgiigemfbebcgaaGreatDoor
open _root_.Go.Proofs.Tryz
open Go.RowKit Go.Maps
theorem part_u8 {S:List UInt8} {i:Nat} (hi:i < S.length) (W:World):Sem.run prog (part 5 (bv S).toArray i) W=.ok (.int .u8 (bf S i)) W:=by
 have h4:(isAgg 5).run prog W=.ok false W:=by kernel_rfl
 have h3:(bv S).toArray[i]? = some (.int .u8 (bf S i)):=by rw [List.getElem?_toArray];exact bv_bf hi
 unfold part
 simp only [Sem.run_bind,h4,Result.andThen_ok,h3,Bool.false_eq_true,if_false,Sem.run_pure]
theorem eqItems_key {S T:List UInt8} (hS:S.length=32) (hT:T.length=32) (W:World):∀ is:List Nat,(∀ i ∈ is,i < 32) →
  (Op.eqItems 9999 5 1 (bv S).toArray (bv T).toArray is).run prog W=.ok (is.all fun i=>bf S i == bf T i) W
 | [],_=>by simp [Op.eqItems]
 | i :: is,h=>by
  have hi:=h i (by simp)
  simp only [Op.eqItems,Sem.run_bind,Nat.mul_one,part_u8 (show i < S.length by omega),part_u8 (show i < T.length by omega),Result.andThen_ok,run_equalIn_int W 9998 5 .u8 .u8 _ _ underlying5,List.all_cons]
  cases hb:(bf S i == bf T i)
  ·simp
  ·simp [eqItems_key hS hT W is fun j hj=>h j (by simp [hj])]
theorem bf_ext {S T:List UInt8} (hS:S.length=32) (hT:T.length=32) (h:∀ i,i < 32->bf S i=bf T i):S=T:=by
 apply List.ext_getElem (by omega)
 intro i h1 h2
 have h3:=h i (by omega)
 unfold bf at h3
 rw [List.getD_eq_getElem?_getD,List.getD_eq_getElem?_getD,List.getElem?_eq_getElem h1,List.getElem?_eq_getElem h2] at h3
 exact UInt8.toNat_inj.1 (Int.ofNat_inj.1 (by simpa using h3))
theorem eqAll_key {S T:List UInt8} (hS:S.length=32) (hT:T.length=32):((List.range 32).all fun i=>bf S i == bf T i)=decide (S=T):=by
 by_cases h:S=T
 ·subst h;simp
 ·rw [decide_eq_false h,List.all_eq_false]
  refine Classical.byContradiction fun hn=>h (bf_ext hS hT fun i hi=>?_)
  refine Classical.byContradiction fun hne=>hn ⟨i,List.mem_range.2 hi,by simpa using hne⟩
theorem run_eq_key {S T:List UInt8} (hS:S.length=32) (hT:T.length=32) (W:World):(binOp .eql 43 (keyV S) (keyV T)).run prog W=.ok (.bool (decide (S=T))) W:=by
 obtain ⟨i0,hi,-⟩:=info_parts info_byte
 have hc:prog.cellsOf 5=1:=by kernel_rfl
 rw [run_eql_struct,run_equalIn_array W 9999 _ _ underlying43 hi,hc,eqItems_key hS hT W _ (fun i hi=>List.mem_range.1 hi),eqAll_key hS hT]
 rfl
theorem key_guard:prog.eqGuardType prog.depth 43=false:=by kernel_rfl
theorem yeq {w:World} {S T:List UInt8} {o:Oper} {ρ:Operand->Value} (hS:S.length=32) (hT:T.length=32) (x y:Operand) (rt:TypeId) (ho:o.op=.binOp .eql 43 x y rt) (hx:ρ x=keyV S) (hy:ρ y=keyV T) :
  (execOp ρ o).run prog w=.ok (.value (.bool (decide (S=T)))) w:=by
 unfold execOp
 simp only [ho,hx,hy,Sem.run_bind,Sem.run_pure,run_eqGuard_agg w .eql 43 x y _ _ key_guard,Result.andThen_ok,run_eq_key hS hT]
end Go.Proofs.YtgiigemfbebcgaaGreatDoor
namespace Go.Proofs.YtgiigemfbebcgaaGreatDoor
open _root_.Go.Proofs.Tryz
open Go.RowKit
theorem ss_head (g o n c k:Nat) (hk:k<=n) (hn:n<=c) (W:World):(Instr.sliceAt 38 (.slice (some ⟨g,o,none⟩) n c) none (some (.int .i64 (k:Int))) (some (.int .i64 (k:Int)))).run prog W=.ok (.slice (some ⟨g,o,none⟩) k k) W:=by
 have h1:(0:Int)<=(k:Int):=Int.natCast_nonneg _
 have h2:(k:Int)<=(c:Int):=by omega
 go_simp
theorem ss_tail (g o n c k:Nat) (hk:k<=n) (hn:n<=c) (W:World):(Instr.sliceAt 38 (.slice (some ⟨g,o,none⟩) n c) (some (.int .i64 (k:Int))) none none).run prog W=.ok (.slice (some ⟨g,if c=k then o else o+k,none⟩) (n - k) (c - k)) W:=by
 have h1:(0:Int)<=(k:Int):=Int.natCast_nonneg _
 have h2:(k:Int)<=(n:Int):=by omega
 have h3:(n:Int)<=(c:Int):=by omega
 go_simp
 split <;> rfl
theorem ss_nil (W:World):(Instr.sliceAt 38 (.slice none 0 0) none (some (.int .i64 ((0:Nat):Int))) (some (.int .i64 ((0:Nat):Int)))).run prog W=.ok (.slice none 0 0) W/\(Instr.sliceAt 38 (.slice none 0 0) (some (.int .i64 ((0:Nat):Int))) none none).run prog W=.ok (.slice none 0 0) W:=⟨by go_simp,by go_simp⟩
theorem ss_parts {w:World} {v:Value} {n:Nat} {xs:List Value} (h:Sl w No 9 v n xs) (hx:xs.length=n*1) {k:Nat} (hk:k<=n) :
  ∃ sv tv,(∀ W:World,(Instr.sliceAt 38 v none (some (.int .i64 (k:Int))) (some (.int .i64 (k:Int)))).run prog W=.ok sv W)/\(∀ W:World,(Instr.sliceAt 38 v (some (.int .i64 (k:Int))) none none).run prog W=.ok tv W) ∧
   ((sv=.slice none 0 0/\k=0/\xs.take (k*1)=[])\/∃ a0,sv=.slice (some a0) k k/\(xs.take (k*1)).length=k*1/\∀ j u,(xs.take (k*1))[j]? = some u->w.cell? (a0.add j)=some u) ∧
   Sl w No 9 tv (n - k) (xs.drop (k*1))/\(xs.drop (k*1)).length=(n - k)*1:=by
 have hld:(xs.drop (k*1)).length=(n - k)*1:=by rw [List.length_drop,hx];omega
 rcases h with ⟨rfl,rfl,rfl⟩ | ⟨g,o,c,cur,fz,rfl,hn,hc,hX,hh,hl,hr⟩
 ·obtain rfl:k=0:=by omega
  exact ⟨.slice none 0 0,.slice none 0 0,fun W=>(ss_nil W).1,fun W=>(ss_nil W).2,.inl ⟨rfl,rfl,rfl⟩,.inl ⟨rfl,rfl,rfl⟩,hld⟩
 ·refine ⟨_,_,ss_head g o n c k hk hn,ss_tail g o n c k hk hn,.inr ⟨_,rfl,by rw [List.length_take,hx];omega,fun j u e=>?_⟩,.inr ⟨g,if c=k then o else o+k,c - k,cur,fz,rfl,by omega,by omega,fun f=>f,hh,?_,fun i hi=>?_⟩,hld⟩
  ·have hj:=(List.getElem?_eq_some_iff.1 e).1
   rw [List.length_take] at hj
   rw [List.getElem?_take,if_pos (by omega)] at e
   rw [Addr.add_mid]
   exact cell_ofA hh ((hr j (by omega)).trans e)
  ·rw [hld]
   split
   ·have:n - k=0:=by omega
    rw [this];omega
   ·omega
  ·rw [hld] at hi
   rw [if_neg (by intro e;have:n - k=0:=(by omega);rw [this] at hi;omega),List.getElem?_drop,Nat.mul_one,<- hr (k+i) (by omega),Nat.add_assoc]
theorem ss_new {w:World} {z:ByteArray} {o:Oper} {ρ:Operand->Value} (x:Operand) (ho:o.op=.buildSlice 38 1 #[(0,x)]) (hx:ρ x=.string z) :
  (execOp ρ o).run prog w=.ok (.value (.slice (some ⟨w.heap.size,0,none⟩) 1 1)) (w.alloc (.cells #[.string z] 9)):=by
 unfold execOp
 simp only [ho,List.map_toArray,List.map_cons,List.map_nil,hx,Sem.run_bind]
 go_simp
set_option maxRecDepth 100000 in
set_option maxHeartbeats 16000000 in
theorem refnames_any (xs:List RwX) (hl:xs.length<=1000000) (v:Value) (w:World) (hx:∀ x ∈ xs,(RwX.cells x).length=39) (hv:Sl w No 46 v xs.length (xs.flatMap RwX.cells)) :
  Calls prog 20 #[v] w fun e w'=>∃ (v':Value) (out:List (List UInt8)),e=.returned v'/\w'.ownsRow w.heap.size 9 1 v' out.length (strs out)/\Asc out/\(∀ y,y ∈ out ↔ y ∈ xs.map (fun x=>x.r.name))/\Mod No w w':=by
 refine calls_hide fun R hR=>?_
 have HX:=zh hx
 have HV:=zh hv
 obtain ⟨va,vc,rfl⟩:=hv.len
 obtain ⟨n,hn⟩:∃ n,n=xs.length:=⟨_,rfl⟩
 rw [<- hn] at hl ⊢
 have HN:=zh hn
 have HV:=zh (show Sl w No 46 (.slice va n vc) n (xs.flatMap RwX.cells) by rw [hn];exact HV.out)
 obtain ⟨i0,hi0,hz0,hz1,hz2⟩:=info_parts info_str
 have HI:=zh (And.intro hi0 (And.intro hz0 (And.intro hz1 hz2)))
 clear hi0 hz0 hz1 hz2 hx hv hn
 go_enter func20,ntmps20
 go_wp2_with fail
 go_loopw [3,4,5] (fun q3 q4 q5 wr=>∃ (k:Nat) (v:Value) (out:List (List UInt8)),k<=n/\q4=.int .i64 (k:Int)/\q3=v/\wr.ownsRow w.heap.size 9 1 v out.length (strs out)/\Asc out/\(∀ y,y ∈ out ↔ y ∈ (xs.take k).map (fun x=>x.r.name))/\out.length<=k/\Mod No w wr) (fun _ q _ _=>n - (intOf q).toNat)
 case atStart=>exact ⟨0,.slice none 0 0,[],by omega,rfl,rfl,⟨rfl,.inl ⟨rfl,rfl⟩⟩,List.Pairwise.nil,by simp,by simp,Mod.refl _ _⟩
 case round =>
  obtain ⟨k,v,out,hk,rfl,rfl,hown,has,hmem,hle,hm⟩:=hrel
  have HM:=zh hm
  have HO0:=zh hown
  have HAS:=zh has
  have HMN:=zh hmem
  have hk0:(0:Int)<=(k:Int):=Int.natCast_nonneg _
  obtain ⟨sa,sc,hsv⟩:=own_len hown
  subst hsv
  clear hm hown has hmem
  by_cases hlt:k < n
  ·have hk1:(k:Int) < (n:Int):=by omega
   have hkl:k < xs.length:=by rw [<- HN.out];exact hlt
   obtain ⟨b,o,c,hvs,_⟩:=HV.out.shape (by omega)
   have hva:va=some ⟨b,o,none⟩:=by cases hvs;rfl
   subst hva
   have HTK:=zh (show ∀ y,y ∈ (xs.take (k+1)).map (fun x=>x.r.name) ↔ (y ∈ (xs.take k).map (fun x=>x.r.name)\/y=xs[k].r.name) from fun y=>by
    rw [List.take_succ_eq_append_getElem hkl,List.map_append,List.mem_append,List.map_singleton,List.mem_singleton])
   have HNM:=zh (show ∀ w',Mod No w w'->w'.cell? ⟨b,o+k*39,none⟩=some (.string ⟨xs[k].r.name.toArray⟩) from fun w' h=>by
    have h2:=(h.rangeAt (Sl.atM HX.out HV.out hkl) (fun f=>f)) 0 (strV xs[k].r.name) rfl
    rw [Nat.add_zero] at h2
    exact h2)
   obtain ⟨NM,hNM⟩:∃ NM,NM=xs[k].r.name:=⟨_,rfl⟩
   rw [<- hNM] at HNM HTK
   obtain ⟨ZN,hZN⟩:∃ Z:ByteArray,Z=⟨NM.toArray⟩:=⟨_,rfl⟩
   rw [<- hZN] at HNM
   have HZN:=zh hZN
   obtain ⟨om,hom⟩:∃ m,m=out.length:=⟨_,rfl⟩
   have HO:=zh (show wr.ownsRow w.heap.size 9 1 (.slice sa om sc) om (strs out) by rw [hom];exact HO0.out)
   rw [<- hom] at hle ⊢
   have HOM:=zh hom
   clear hNM hZN hom HO0 hvs
   go_wp2_with fail
   generalize wr=wo at *
   go_loopw [5] (fun q wi=>∃ j:Nat,j<=om/\q=.int .i64 (j:Int)/\Mod No wo wi/\∀ i (hi:i < out.length),i < j->out[i] < NM) (fun q _=>om - (intOf q).toNat)
   case atStart=>exact ⟨0,by omega,rfl,Mod.refl _ _,fun i hi h=>absurd h (by omega)⟩
   case round =>
    obtain ⟨j,hj,rfl,hmi,hlo⟩:=hrel
    have HMI:=zh hmi
    have HLO:=zh hlo
    have hj0:(0:Int)<=(j:Int):=Int.natCast_nonneg _
    clear hmi hlo
    by_cases hjm:j < om
    ·have hjl:j < out.length:=by rw [<- HOM.out];exact hjm
     have hj1:(j:Int) < (om:Int):=by omega
     have hj2:((j:Int) == (om:Int))=false:=by simp;omega
     have hc2:=HNM.out wr (HM.out.trans HMI.out)
     obtain ⟨gs,cs,hvs,hgb⟩:=own_shape HO.out (by omega)
     cases hvs
     have HC1:=zh (show ∀ W,Mod No wo W->W.cell? ⟨gs,j,none⟩=some (.string ⟨out[j].toArray⟩) from fun W hW=>by
      have hc1:=(Sl.of_own (X:=No) (own_keepM HO.out hW (fun _ _ f=>f)) (fun _ _ f=>f)).cellN (i:=j) (by rw [strs_length];exact hjl)
      rw [show (strs out)[j]'(by rw [strs_length];exact hjl)=.string ⟨out[j].toArray⟩ from by simp [strs,strV],Nat.zero_add] at hc1
      exact hc1)
     have hc1:=HC1.out wr HMI.out
     have hT1:ZN.toList=NM:=by rw [HZN.out];exact str_list NM
     have hT2:=str_list out[j]
     by_cases hlt3:out[j] < NM
     ·have hbl:Op.bytesLess (⟨out[j].toArray⟩:ByteArray).toList ZN.toList=true:=by rw [hT1,hT2,bytesLess_decT];exact decide_eq_true hlt3
      have HL2:=zh (show ∀ i (hi:i < out.length),i < j+1->out[i] < NM from fun i hi h=>by
       by_cases he:i=j
       ·subst he;exact hlt3
       ·exact HLO.out i hi (by omega))
      generalize (⟨out[j].toArray⟩:ByteArray)=X2 at *
      clear hT1 hT2 hlt3
      go_upto_region 6 with fail
      go_quiet (fail)
      generalize hw3:World.drewN wr _=w3
      have HM3:=zh (show Mod No wo w3 by rw [<- hw3];exact HMI.out.drewN _)
      clear hw3 hc1 hc2
      go_wp2_with fail
      exact ⟨⟨j+1,by omega,rfl,HM3.out,HL2.out⟩,by show om - ((j:Int)+1).toNat < om - (j:Int).toNat;omega⟩
     ·have hbl:Op.bytesLess (⟨out[j].toArray⟩:ByteArray).toList ZN.toList=false:=by rw [hT1,hT2,bytesLess_decT];exact decide_eq_false hlt3
      by_cases he:out[j]=NM
      ·have hbe:((⟨out[j].toArray⟩:ByteArray).toList == ZN.toList)=true:=by rw [hT1,hT2,he];simp
       have HIN:=zh (show NM ∈ out from he ▸ List.getElem_mem hjl)
       generalize (⟨out[j].toArray⟩:ByteArray)=X2 at *
       clear hT1 hT2 hlt3 he
       go_upto_region 6 with fail
       go_quiet (fail)
       generalize hw2:World.drewN wr _=w2
       have HM2:=zh (show Mod No wo w2 by rw [<- hw2];exact HMI.out.drewN _)
       clear hw2 hc1 hc2
       have hc2:=HNM.out w2 (HM.out.trans HM2.out)
       have hc1:=HC1.out w2 HM2.out
       go_upto_region 8 with fail
       go_quiet (fail)
       generalize hw3:World.drewN w2 _=w3
       have HM3:=zh (show Mod No wo w3 by rw [<- hw3];exact HM2.out.drewN _)
       clear hw3 hc1 hc2
       go_wp2_with fail
       exact ⟨⟨k+1,_,out,by omega,rfl,rfl,own_keepM (by rw [<- HOM.out];exact HO.out) HM3.out (fun _ _ f=>f),HAS.out,fun y=>by
        rw [HTK.out y,<- HMN.out y]
        exact ⟨.inl,fun h=>h.elim id (fun e=>by rw [e];exact HIN.out)⟩,by rw [<- HOM.out];omega,HM.out.trans HM3.out⟩,by show n - ((k:Int)+1).toNat < n - (k:Int).toNat;omega⟩
      ·have hbe:((⟨out[j].toArray⟩:ByteArray).toList == ZN.toList)=false:=by
        rw [hT1,hT2]
        rcases hb:(out[j] == NM) with _ | _
        ·rfl
        ·exact absurd (eq_of_beq hb) he
       have HHI:=zh (show ∀ hj:j < out.length,NM < out[j] from fun _=>text_gt hlt3 he)
       generalize (⟨out[j].toArray⟩:ByteArray)=X2 at *
       clear hT1 hT2 hlt3 he
       go_upto_region 6 with fail
       go_quiet (fail)
       generalize hw2:World.drewN wr _=w2
       have HM2:=zh (show Mod No wo w2 by rw [<- hw2];exact HMI.out.drewN _)
       clear hw2 hc1 hc2
       have hc2:=HNM.out w2 (HM.out.trans HM2.out)
       have hc1:=HC1.out w2 HM2.out
       go_upto_region 8 with fail
       go_quiet (fail)
       generalize hw3:World.drewN w2 _=w3
       have HM3:=zh (show Mod No wo w3 by rw [<- hw3];exact HM2.out.drewN _)
       clear hw3 hc1 hc2
       have HAS2:=zh (asc_ins HAS.out (j:=j) (by have:=HOM.out;omega) HLO.out HHI.out)
       have HME2:=zh (show ∀ y,y ∈ out.take j++NM :: out.drop j ↔ y ∈ (xs.take (k+1)).map (fun x=>x.r.name) from fun y=>by
        rw [ins_mem,HMN.out,HTK.out y]
        exact or_comm)
       have HLE2:=zh (show (out.take j++NM :: out.drop j).length=om+1 by rw [List.length_append,List.length_cons,List.length_take,List.length_drop,<- HOM.out];omega)
       obtain ⟨sv,tv,hsv,htv,hsc,hts,hld⟩:=ss_parts (k:=j) (n:=om) (Sl.of_own (X:=No) (own_keepM HO.out HM3.out.drew (fun _ _ f=>f)) (fun _ _ f=>f)) (by rw [strs_length,<- HOM.out,Nat.mul_one]) (by omega)
       have HSV:=zh hsv
       have HTV:=zh htv
       obtain ⟨hi0,hz0,hz1,hz2⟩:=HI.out
       have HFX:=zh (show (strs out).take (j*1)++([Value.string ZN]++(strs out).drop (j*1))=strs (out.take j++NM :: out.drop j) by
        rw [Nat.mul_one,HZN.out];unfold strs strV;simp only [List.map_append,List.map_cons,List.map_take,List.map_drop,List.singleton_append])
       obtain ⟨wD,hwD⟩:∃ y,y=w3.drew:=⟨_,rfl⟩
       rw [<- hwD] at hsc hts
       have HSC:=zh hsc
       have HTS:=zh hts
       have HLD:=zh hld
       have HC:=zh (show [Value.string ZN].length=1 from rfl)
       have H1X:=zh (show ∀ u ∈ [Value.string ZN],u.oneCell'=true from fun u hu=>by rw [List.mem_singleton.1 hu];rfl)
       have H1D:=zh (show ∀ u ∈ (strs out).drop (j*1),u.oneCell'=true from fun u hu=>by
        obtain ⟨y,-,rfl⟩:=List.mem_map.1 (List.mem_of_mem_drop hu)
        rfl)
       have HMD:=zh (show Mod No w wD by rw [hwD];exact HM.out.trans HM3.out.drew)
       have HSM:=zh (show ∀ w',Mod No wD w'->w'.cell? ⟨b,o+k*39,none⟩=some (.string ZN) from fun w' h=>HNM.out w' (HMD.out.trans h))
       have HBD:=zh HMD.out.size
       have HWD:=zh hwD
       have hS0:=Mod.refl No wD
       generalize hXS:strs out=XS at *
       clear hsv htv hsc hts hld hwD hXS
       go_upto_region 9 with fail
       refine wp_region_T (fun w'=>Mod No wD w') 99 (by kernel_rfl) ?_
       rw [<- HWD.out]
       refine yT 0 (some 46) ?_ hS0 ?_ ?_
       rotate_left
       ·(intro w' hSw;go_simp;try with_reducible rfl)
       simp only [Act.put,yB,yC,yD]
       refine yT 1 (some 47) ?_ hS0 ?_ ?_
       rotate_left
       ·(intro w' hSw;go_simp;try with_reducible rfl)
       simp only [Act.put,yB,yC,yD]
       refine yT 2 (some 48) ?_ hS0 ?_ ?_
       rotate_left
       ·(intro w' hSw;go_simp;try with_reducible rfl)
       simp only [Act.put,yB,yC,yD]
       refine yT 3 (some 49) sv hS0 ?_ ?_
       ·(intro w' hSw;apply yslice3 (HSV.out w') (.tmp 46) (.tmp 47) (.tmp 48) <;> rfl)
       simp only [Act.put,yB,yC,yD]
       refine yT 4 (some 50) ?_ hS0 ?_ ?_
       rotate_left
       ·(intro w' hSw;go_simp;try with_reducible rfl)
       simp only [Act.put,yB,yC,yD]
       refine yT 5 (some 51) ?_ hS0 ?_ ?_
       rotate_left
       ·(intro w' hSw;go_simp;try with_reducible rfl)
       simp only [Act.put,yB,yC,yD]
       refine yT 6 (some 52) ?_ hS0 ?_ ?_
       rotate_left
       ·(intro w' hSw;go_simp;try with_reducible rfl)
       simp only [Act.put,yB,yC,yD]
       refine yT 7 (some 53) ?_ hS0 ?_ ?_
       rotate_left
       ·(intro w' hSw;go_simp;try with_reducible rfl)
       simp only [Act.put,yB,yC,yD]
       refine yT 8 (some 54) (.string ZN) hS0 ?_ ?_
       ·(intro w' hSw;have q0:=HSM.out w' hSw;go_simp;try with_reducible rfl)
       simp only [Act.put,yB,yC,yD]
       refine yT 10 (some 56) ?_ hS0 ?_ ?_
       rotate_left
       ·(intro w' hSw;go_simp;try with_reducible rfl)
       simp only [Act.put,yB,yC,yD]
       refine yT 11 (some 57) ?_ hS0 ?_ ?_
       rotate_left
       ·(intro w' hSw;go_simp;try with_reducible rfl)
       simp only [Act.put,yB,yC,yD]
       refine yT 12 (some 58) tv hS0 ?_ ?_
       ·(intro w' hSw;apply yslice1 (HTV.out w') (.tmp 56) (.tmp 57) <;> rfl)
       simp only [Act.put,yB,yC,yD]
       refine wpAnyT_one 9 rfl (by kernel_rfl) rfl ?_
       intro K hK
       obtain ⟨ga,hga⟩:∃ ga,ga=wD.heap.size:=⟨_,rfl⟩
       obtain ⟨wD_9,hwD_9⟩:∃ y,y=wD.alloc (.cells [Value.string ZN].toArray 9):=⟨_,rfl⟩
       have HGA:=zh (show wD_9.heap[ga]? = some (.cells [Value.string ZN].toArray 9 (0,0)) by rw [hwD_9,hga];exact heap_alloc_new _ _)
       have hmwD_9:Mod No wD wD_9:=by rw [hwD_9];exact (Mod.refl No _).alloc _
       have HGL:=zh (show wD.heap.size<=ga by omega)
       refine wp_value (v:=.slice (some ⟨ga,0,none⟩) 1 1) (w':=wD_9) (by rw [hga,hwD_9];apply ss_new (.tmp 54) <;> rfl) ?_
       clear hwD_9 hga
       show K (Act.put _ (some 55) _) _
       have hS1:=hS0.trans hmwD_9
       refine hK.out _ _ (fun _=>hS1) ?_
       clear hK K
       refine wpAnyT_one 13 rfl (by kernel_rfl) rfl ?_
       intro K hK
       refine wp_app_sl wD_9 (.tmp 55) (.tmp 58) 38 (by rfl) ga 9 i0 _ 1 16 underlying38 hi0 hz0 hz1 hz2 rfl (by decide) (.slice (some ⟨ga,0,none⟩) 1 1) 1 [Value.string ZN] (by rfl) ⟨by rw [HC.out],.inr ⟨ga,1,_,rfl,Nat.le_refl _,HGA.out,Nat.le_refl _,by unfold maxLen;omega,by simp [HC.out],by rw [List.toList_toArray,List.take_of_length_le (by rw [HC.out];decide)]⟩⟩ No 9 tv (om - j) (XS.drop (j*1)) (by rfl) (HTS.out.kn hS1) HLD.out H1D.out (by unfold maxLen;omega) (by omega) (Nat.le_of_lt (lt_of_heap HGA.out)) ?_
       intro v6 w6 hown hg6 _
       obtain ⟨g6,c6,rfl,hg6a⟩:=own_shape hown (by omega)
       have HO6:=zh hown
       have hm6:Mod No wD w6:=hS1.then (Mod.of_grown (S:=fun q=>q=ga) hg6 (fun q e _=>by cases e;rfl)) (fun q hq e=>by have e:q=ga:=e;have h1:=HGL.out;omega)
       have HB6:=zh (show w.heap.size<=w6.heap.size from Nat.le_trans HBD.out hm6.size)
       clear hown hg6
       show K (Act.put _ (some 59) _) _
       have hS2:=hm6
       refine hK.out _ _ (fun _=>hS2) ?_
       clear hK K
       refine wpAnyT_one 14 rfl (by kernel_rfl) rfl ?_
       intro K hK
       refine wp_app_full w6 (.tmp 49) (.tmp 59) 38 (by rfl) w.heap.size 9 i0 _ 1 16 underlying38 hi0 hz0 hz1 hz2 rfl sv j (XS.take (j*1)) (by rfl) (by
        rcases HSC.out with h | ⟨a0,h1,h2,h3⟩
        ·exact .inl h
        ·exact .inr ⟨a0,h1,h2,fun j u e=>hS2.cell (h3 j u e) (fun f=>f)⟩) ⟨g6,0,none⟩ (1+(om - j)) c6 ([Value.string ZN]++XS.drop (j*1)) (by rfl) (by omega) HO6.out.1 (fun j u e=>HO6.out.cells (g:=g6) rfl j u e) (by unfold maxLen;omega) (by omega) HB6.out ?_
       intro v7 w7 hown7 hm7
       have HO7:=zh hown7
       clear hown7
       show K (Act.put _ (some 60) _) _
       have hS3:=hS2.trans hm7
       refine hK.out _ _ (fun _=>hS3) ?_
       clear hK K
       refine yT 15 (some 3) ?_ hS3 ?_ ?_
       rotate_left
       ·(intro w' hSw;go_simp;try with_reducible rfl)
       simp only [Act.put]
       refine wpAnyT_done (by kernel_rfl) ?_ _
       have HMF:=zh hS3
       clear hS0 hS1 hS2 hS3
       go_wp2_with fail
       refine ⟨⟨k+1,v7,out.take j++NM :: out.drop j,by omega,rfl,rfl,?_,HAS2.out,HME2.out,by rw [HLE2.out];omega,HMD.out.trans HMF.out⟩,by show n - ((k:Int)+1).toNat < n - (k:Int).toNat;omega⟩
       have h9:=HO7.out
       rw [HFX.out] at h9
       rw [HLE2.out,show om+1=j+(1+(om - j)) by omega]
       exact h9
    ·obtain rfl:j=om:=by omega
     have hj1:¬ ((j:Int) < (j:Int)):=by omega
     have hj2:((j:Int) == (j:Int))=true:=by simp
     have HHI:=zh (show ∀ hj:j < out.length,NM < out[j] from fun h=>by have:=HOM.out;omega)
     have hc2:=HNM.out wr (HM.out.trans HMI.out)
     go_upto_region 6 with fail
     go_quiet (fail)
     generalize hw2:World.drewN wr _=w2
     have HM2:=zh (show Mod No wo w2 by rw [<- hw2];exact HMI.out.drewN _)
     clear hw2 hc2
     have hc2:=HNM.out w2 (HM.out.trans HM2.out)
     go_upto_region 8 with fail
     go_quiet (fail)
     generalize hw3:World.drewN w2 _=w3
     have HM3:=zh (show Mod No wo w3 by rw [<- hw3];exact HM2.out.drewN _)
     clear hw3 hc2
     have HAS2:=zh (asc_ins HAS.out (j:=j) (by have:=HOM.out;omega) HLO.out HHI.out)
     have HME2:=zh (show ∀ y,y ∈ out.take j++NM :: out.drop j ↔ y ∈ (xs.take (k+1)).map (fun x=>x.r.name) from fun y=>by
      rw [ins_mem,HMN.out,HTK.out y]
      exact or_comm)
     have HLE2:=zh (show (out.take j++NM :: out.drop j).length=j+1 by rw [List.length_append,List.length_cons,List.length_take,List.length_drop,<- HOM.out];omega)
     obtain ⟨sv,tv,hsv,htv,hsc,hts,hld⟩:=ss_parts (k:=j) (n:=j) (Sl.of_own (X:=No) (own_keepM HO.out HM3.out.drew (fun _ _ f=>f)) (fun _ _ f=>f)) (by rw [strs_length,<- HOM.out,Nat.mul_one]) (by omega)
     have HSV:=zh hsv
     have HTV:=zh htv
     obtain ⟨hi0,hz0,hz1,hz2⟩:=HI.out
     have HFX:=zh (show (strs out).take (j*1)++([Value.string ZN]++(strs out).drop (j*1))=strs (out.take j++NM :: out.drop j) by
      rw [Nat.mul_one,HZN.out];unfold strs strV;simp only [List.map_append,List.map_cons,List.map_take,List.map_drop,List.singleton_append])
     obtain ⟨wD,hwD⟩:∃ y,y=w3.drew:=⟨_,rfl⟩
     rw [<- hwD] at hsc hts
     have HSC:=zh hsc
     have HTS:=zh hts
     have HLD:=zh hld
     have HC:=zh (show [Value.string ZN].length=1 from rfl)
     have H1X:=zh (show ∀ u ∈ [Value.string ZN],u.oneCell'=true from fun u hu=>by rw [List.mem_singleton.1 hu];rfl)
     have H1D:=zh (show ∀ u ∈ (strs out).drop (j*1),u.oneCell'=true from fun u hu=>by
      obtain ⟨y,-,rfl⟩:=List.mem_map.1 (List.mem_of_mem_drop hu)
      rfl)
     have HMD:=zh (show Mod No w wD by rw [hwD];exact HM.out.trans HM3.out.drew)
     have HSM:=zh (show ∀ w',Mod No wD w'->w'.cell? ⟨b,o+k*39,none⟩=some (.string ZN) from fun w' h=>HNM.out w' (HMD.out.trans h))
     have HBD:=zh HMD.out.size
     have HWD:=zh hwD
     have hS0:=Mod.refl No wD
     generalize hXS:strs out=XS at *
     clear hsv htv hsc hts hld hwD hXS
     go_upto_region 9 with fail
     refine wp_region_T (fun w'=>Mod No wD w') 99 (by kernel_rfl) ?_
     rw [<- HWD.out]
     refine yT 0 (some 46) ?_ hS0 ?_ ?_
     rotate_left
     ·(intro w' hSw;go_simp;try with_reducible rfl)
     simp only [Act.put,yB,yC,yD]
     refine yT 1 (some 47) ?_ hS0 ?_ ?_
     rotate_left
     ·(intro w' hSw;go_simp;try with_reducible rfl)
     simp only [Act.put,yB,yC,yD]
     refine yT 2 (some 48) ?_ hS0 ?_ ?_
     rotate_left
     ·(intro w' hSw;go_simp;try with_reducible rfl)
     simp only [Act.put,yB,yC,yD]
     refine yT 3 (some 49) sv hS0 ?_ ?_
     ·(intro w' hSw;apply yslice3 (HSV.out w') (.tmp 46) (.tmp 47) (.tmp 48) <;> rfl)
     simp only [Act.put,yB,yC,yD]
     refine yT 4 (some 50) ?_ hS0 ?_ ?_
     rotate_left
     ·(intro w' hSw;go_simp;try with_reducible rfl)
     simp only [Act.put,yB,yC,yD]
     refine yT 5 (some 51) ?_ hS0 ?_ ?_
     rotate_left
     ·(intro w' hSw;go_simp;try with_reducible rfl)
     simp only [Act.put,yB,yC,yD]
     refine yT 6 (some 52) ?_ hS0 ?_ ?_
     rotate_left
     ·(intro w' hSw;go_simp;try with_reducible rfl)
     simp only [Act.put,yB,yC,yD]
     refine yT 7 (some 53) ?_ hS0 ?_ ?_
     rotate_left
     ·(intro w' hSw;go_simp;try with_reducible rfl)
     simp only [Act.put,yB,yC,yD]
     refine yT 8 (some 54) (.string ZN) hS0 ?_ ?_
     ·(intro w' hSw;have q0:=HSM.out w' hSw;go_simp;try with_reducible rfl)
     simp only [Act.put,yB,yC,yD]
     refine yT 10 (some 56) ?_ hS0 ?_ ?_
     rotate_left
     ·(intro w' hSw;go_simp;try with_reducible rfl)
     simp only [Act.put,yB,yC,yD]
     refine yT 11 (some 57) ?_ hS0 ?_ ?_
     rotate_left
     ·(intro w' hSw;go_simp;try with_reducible rfl)
     simp only [Act.put,yB,yC,yD]
     refine yT 12 (some 58) tv hS0 ?_ ?_
     ·(intro w' hSw;apply yslice1 (HTV.out w') (.tmp 56) (.tmp 57) <;> rfl)
     simp only [Act.put,yB,yC,yD]
     refine wpAnyT_one 9 rfl (by kernel_rfl) rfl ?_
     intro K hK
     obtain ⟨ga,hga⟩:∃ ga,ga=wD.heap.size:=⟨_,rfl⟩
     obtain ⟨wD_9,hwD_9⟩:∃ y,y=wD.alloc (.cells [Value.string ZN].toArray 9):=⟨_,rfl⟩
     have HGA:=zh (show wD_9.heap[ga]? = some (.cells [Value.string ZN].toArray 9 (0,0)) by rw [hwD_9,hga];exact heap_alloc_new _ _)
     have hmwD_9:Mod No wD wD_9:=by rw [hwD_9];exact (Mod.refl No _).alloc _
     have HGL:=zh (show wD.heap.size<=ga by omega)
     refine wp_value (v:=.slice (some ⟨ga,0,none⟩) 1 1) (w':=wD_9) (by rw [hga,hwD_9];apply ss_new (.tmp 54) <;> rfl) ?_
     clear hwD_9 hga
     show K (Act.put _ (some 55) _) _
     have hS1:=hS0.trans hmwD_9
     refine hK.out _ _ (fun _=>hS1) ?_
     clear hK K
     refine wpAnyT_one 13 rfl (by kernel_rfl) rfl ?_
     intro K hK
     refine wp_app_sl wD_9 (.tmp 55) (.tmp 58) 38 (by rfl) ga 9 i0 _ 1 16 underlying38 hi0 hz0 hz1 hz2 rfl (by decide) (.slice (some ⟨ga,0,none⟩) 1 1) 1 [Value.string ZN] (by rfl) ⟨by rw [HC.out],.inr ⟨ga,1,_,rfl,Nat.le_refl _,HGA.out,Nat.le_refl _,by unfold maxLen;omega,by simp [HC.out],by rw [List.toList_toArray,List.take_of_length_le (by rw [HC.out];decide)]⟩⟩ No 9 tv (j - j) (XS.drop (j*1)) (by rfl) (HTS.out.kn hS1) HLD.out H1D.out (by unfold maxLen;omega) (by omega) (Nat.le_of_lt (lt_of_heap HGA.out)) ?_
     intro v6 w6 hown hg6 _
     obtain ⟨g6,c6,rfl,hg6a⟩:=own_shape hown (by omega)
     have HO6:=zh hown
     have hm6:Mod No wD w6:=hS1.then (Mod.of_grown (S:=fun q=>q=ga) hg6 (fun q e _=>by cases e;rfl)) (fun q hq e=>by have e:q=ga:=e;have h1:=HGL.out;omega)
     have HB6:=zh (show w.heap.size<=w6.heap.size from Nat.le_trans HBD.out hm6.size)
     clear hown hg6
     show K (Act.put _ (some 59) _) _
     have hS2:=hm6
     refine hK.out _ _ (fun _=>hS2) ?_
     clear hK K
     refine wpAnyT_one 14 rfl (by kernel_rfl) rfl ?_
     intro K hK
     refine wp_app_full w6 (.tmp 49) (.tmp 59) 38 (by rfl) w.heap.size 9 i0 _ 1 16 underlying38 hi0 hz0 hz1 hz2 rfl sv j (XS.take (j*1)) (by rfl) (by
      rcases HSC.out with h | ⟨a0,h1,h2,h3⟩
      ·exact .inl h
      ·exact .inr ⟨a0,h1,h2,fun j u e=>hS2.cell (h3 j u e) (fun f=>f)⟩) ⟨g6,0,none⟩ (1+(j - j)) c6 ([Value.string ZN]++XS.drop (j*1)) (by rfl) (by omega) HO6.out.1 (fun j u e=>HO6.out.cells (g:=g6) rfl j u e) (by unfold maxLen;omega) (by omega) HB6.out ?_
     intro v7 w7 hown7 hm7
     have HO7:=zh hown7
     clear hown7
     show K (Act.put _ (some 60) _) _
     have hS3:=hS2.trans hm7
     refine hK.out _ _ (fun _=>hS3) ?_
     clear hK K
     refine yT 15 (some 3) ?_ hS3 ?_ ?_
     rotate_left
     ·(intro w' hSw;go_simp;try with_reducible rfl)
     simp only [Act.put]
     refine wpAnyT_done (by kernel_rfl) ?_ _
     have HMF:=zh hS3
     clear hS0 hS1 hS2 hS3
     go_wp2_with fail
     refine ⟨⟨k+1,v7,out.take j++NM :: out.drop j,by omega,rfl,rfl,?_,HAS2.out,HME2.out,by rw [HLE2.out];omega,HMD.out.trans HMF.out⟩,by show n - ((k:Int)+1).toNat < n - (k:Int).toNat;omega⟩
     have h9:=HO7.out
     rw [HFX.out] at h9
     rw [HLE2.out,show j+1=j+(1+(j - j)) by omega]
     exact h9
  ·obtain rfl:k=n:=by omega
   have hk1:¬ ((k:Int) < (k:Int)):=by omega
   have HML:=zh (show xs.take k=xs from List.take_of_length_le (by rw [HN.out];exact Nat.le_refl _))
   go_wp2_with fail
   exact fin hR ⟨_,out,rfl,HO0.out,HAS.out,by rw [<- HML.out];exact HMN.out,HM.out⟩
end Go.Proofs.YtgiigemfbebcgaaGreatDoor
