/-
  Layers 0 to 14: helps of the laws of indexes. No statement is proved here; no condition.
-/
import Derived.Test.YtgiigemfbebcgaaGreatDoorT15
import Derived.Test.YtgiigemfbebcgaaGreatDoorT30
import Derived.Test.YtgiigemfbebcgaaGreatDoorT09
import Derived.Test.YtgiigemfbebcgaaGreatDoorT01
import Derived.Test.YtgiigemfbebcgaaGreatDoorT32
import Derived.Test.YtgiigemfbebcgaaGreatDoorT14
import Derived.Great.Walk
import Derived.Great.CaseRows
namespace Go.Proofs.YtgiigemfbebcgaaGreatDoor
open _root_.Go.Proofs.Tryz
open Go.RowKit Go.Sort
theorem row_parts (y:RwX):RwX.cells y=[strV y.r.name]++verCs y.r.v y.pv++(bv y.r.sum++[.int .i64 y.r.size,y.nv]):=rfl
set_option maxRecDepth 100000 in
set_option maxHeartbeats 16000000 in
theorem versions_any (xs:List RwX) (hl:xs.length<=20) (name:List UInt8) (v:Value) (w:World) (hx:∀ x ∈ xs,RwAt w x) (hv:Sl w No 46 v xs.length (xs.flatMap RwX.cells)) :
  Calls prog 22 #[v,strV name] w fun e w'=>∃ v',e=.returned v'/\VrsAt w' v' (sortR ltVx (versOf name xs))/\Mod No w w':=by
 refine calls_hide fun R hR=>?_
 have HX:=zh hx
 obtain ⟨va,vc,rfl⟩:=hv.len
 obtain ⟨n,hn⟩:∃ n,n=xs.length:=⟨_,rfl⟩
 rw [<- hn] at hl ⊢
 have HN:=zh hn
 have HV:=zh (show Sl w No 46 (.slice va n vc) n (xs.flatMap RwX.cells) by rw [hn];exact hv)
 obtain ⟨i0,hi0,hz0,hz1,hz2⟩:=info_parts info_vr
 have HI:=zh (And.intro hi0 (And.intro hz0 (And.intro hz1 hz2)))
 have HEA:=zh (show ∀ k,∀ y ∈ versOf name (xs.take k),Small y.v/\Sl w (fun q=>w.heap.size<=q) 9 y.pv y.v.pre.length (strs y.v.pre) from fun k y hy=>by
  unfold versOf at hy
  obtain ⟨x,hx2,rfl⟩:=List.mem_map.1 hy
  have h:=(hx x (List.mem_of_mem_take (List.mem_filter.1 hx2).1)).ok
  exact ⟨h.small,h.pre.avoid.shrink (fun b _ h=>.inr h)⟩)
 obtain ⟨ZM,hZM⟩:∃ Z:ByteArray,Z=⟨name.toArray⟩:=⟨_,rfl⟩
 have HZM:=zh hZM
 unfold strV
 rw [<- hZM]
 clear hi0 hz0 hz1 hz2 hx hv hn hZM
 go_enter func22,ntmps22
 go_wp2_with fail
 go_loopw [5,10] (fun q5 q10 wr=>∃ (k m:Nat) (v:Value),k<=n/\q10=.int .i64 (k:Int)/\q5=v/\m=(versOf name (xs.take k)).length/\m<=k/\wr.ownsRow w.heap.size 40 4 v m ((versOf name (xs.take k)).flatMap VrX.cells)/\Mod No w wr) (fun _ q _=>n - (intOf q).toNat)
 case atStart=>exact ⟨0,0,.slice none 0 0,by omega,rfl,rfl,rfl,by omega,⟨rfl,.inl ⟨rfl,rfl⟩⟩,Mod.refl _ _⟩
 case round =>
  obtain ⟨k,m,v,hk,rfl,rfl,hmm,hmk,hown,hm⟩:=hrel
  have HM:=zh hm
  have HO:=zh hown
  have HMM:=zh hmm
  have hk0:(0:Int)<=(k:Int):=Int.natCast_nonneg _
  obtain ⟨sa,sc,hsv⟩:=own_len hown
  subst hsv
  clear hm hown hmm
  by_cases hlt:k < n
  ·have hk1:(k:Int) < (n:Int):=by omega
   have hkl:k < xs.length:=by rw [<- HN.out];exact hlt
   obtain ⟨b,o,c,hvs,_⟩:=HV.out.shape (by omega)
   have hva:va=some ⟨b,o,none⟩:=by cases hvs;rfl
   subst hva
   have HVT:=zh (versOf_take (name:=name) hkl)
   have HRG:=zh (HM.out.rangeAt (Sl.atM (fun x hx=>RwX.cells_length x (HX.out x hx).ok.sum) HV.out hkl) (fun f=>f))
   have HXK:=zh ((HX.out _ (List.getElem_mem hkl)).ok.keep HM.out (Apart.no _ _))
   generalize xs[k]=y at *
   have HL39:=zh (RwX.cells_length y HXK.out.sum)
   obtain ⟨cs,hcs⟩:∃ cs,cs=RwX.cells y:=⟨_,rfl⟩
   rw [<- hcs] at HRG HL39
   have HCS:=zh hcs
   clear hcs hvs
   go_upto_region 5 with (first | (refine wpList_load_mid rfl 46 _ rfl b (o+k*39) rfl cs _ HRG.out underlying46 rfl (by rw [HL39.out];exact row_info) ?_) | (refine wpList_store_row rfl 46 _ _ rfl wr.heap.size cs.toArray rfl rfl 46 _ (heap_alloc_new wr _) (by rw [List.size_toArray,HL39.out];exact row_info) (by show _=cs.length;rw [HL39.out];rfl) (by rw [HCS.out];exact rows_one HXK.out) ?_))
   obtain ⟨gb,hgb⟩:∃ g,g=wr.heap.size:=⟨_,rfl⟩
   rw [<- hgb]
   generalize hw0:World.setRow _ gb cs.toArray=w0
   have HM0:=zh (show Mod No wr w0 by rw [<- hw0,hgb];exact ((Mod.refl No wr).alloc _).setRow (fun h=>absurd h (by omega)) _)
   have hga:w0.heap[gb]? = some (.cells cs.toArray 46 (0,0)):=by rw [<- hw0,hgb];exact setRow_heap _ _ _ _ _ _ (heap_alloc_new wr _)
   have hc0:=cell_ofA hga (i:=0) (v:=strV y.r.name) (by rw [List.getElem?_toArray,HCS.out];rfl)
   obtain ⟨vs,hvs⟩:∃ vs,vs=verCs y.r.v y.pv:=⟨_,rfl⟩
   have HVS:=zh hvs
   have HRV:=zh (show w0.rangeAt gb 1 vs by
    rw [hvs]
    exact rangeAt_part (w:=w0) (b:=gb) (o:=0) (p:=[strV y.r.name]) (q:=verCs y.r.v y.pv) (r:=bv y.r.sum++[.int .i64 y.r.size,y.nv]) (fun j u hj=>by
     rw [Nat.zero_add]
     exact cell_ofA hga (by rw [List.getElem?_toArray,HCS.out,row_parts];exact hj)))
   have HV4:=zh (show vs.length=4 by rw [hvs];rfl)
   have HV1:=zh (show ∀ u ∈ vs,u.oneCell'=true from fun u hu=>by
    rw [hvs] at hu
    exact vr_one ⟨y.r.v,y.pv⟩ (by obtain ⟨p,c,e⟩:=HXK.out.pre.len;exact ⟨p,_,c,e⟩) u hu)
   clear hvs
   have HO0:=zh (own_keepM HO.out HM0.out (fun _ _ f=>f))
   have hT1:=str_list y.r.name
   have hT2:ZM.toList=name:=by rw [HZM.out];exact str_list name
   clear hgb hw0 hga
   unfold strV at hc0
   by_cases he:y.r.name=name
   ·have hbe:((⟨y.r.name.toArray⟩:ByteArray).toList == ZM.toList)=true:=by rw [hT1,hT2,he];simp
    rw [if_pos he] at HVT
    generalize (⟨y.r.name.toArray⟩:ByteArray)=ZY at *
    clear hT1 hT2 he
    go_upto_region 6 with fail
    obtain ⟨hi0,hz0,hz1,hz2⟩:=HI.out
    have HNW:=zh (show [Value.agg vs.toArray].flatMap (fun v=>v.cells.toList)=vs by simp [Value.cells])
    refine wp_region_lit ?_
    refine Great.wpList_runTo rfl (some 18) rfl (.slice sa m sc) w0 rfl ?_
    refine Great.wpList_runTo rfl (some 19) rfl (.pointer (some ⟨gb,1,none⟩)) w0 rfl ?_
    refine wpList_load_mid rfl 40 _ rfl gb 1 rfl vs _ HRV.out underlying40 rfl (by rw [HV4.out];exact ver_info) ?_
    refine Great.wpList_buildRows rfl 53 40 _ 4 [.agg vs.toArray] rfl (fun _=>20) w0.heap.size rfl _ rfl underlying53 (by kernel_rfl) (by kernel_rfl) (by decide) (by simp) (by simp) rfl (fun v hv=>by rw [List.mem_singleton.1 hv];exact HV4.out) (fun i hi=>by obtain rfl:i=0:=(by simpa using hi);rfl) ?_
    refine app_sl _ rfl _ _ 53 rfl w.heap.size 40 i0 _ 4 48 underlying53 hi0 hz0 hz1 hz2 rfl (by decide) (.slice sa m sc) m _ rfl (own_keepM HO0.out ((Mod.refl No w0).alloc _) (fun _ _ f=>f)) No 40 _ 1 ([Value.agg vs.toArray].flatMap (fun v=>v.cells.toList)) rfl (sl_new w0 _ _ (Nat.le_refl 1) (by unfold maxLen;omega)) (by rw [HNW.out];exact HV4.out) (by rw [HNW.out];exact HV1.out) (by unfold maxLen;omega) (by omega) (Nat.le_trans HM.out.size (Nat.le_trans HM0.out.size ((Mod.refl No w0).alloc _).size)) ?_
    intro v7 w7 hown7 hg7 _
    rw [HNW.out] at hown7
    have HO7:=zh hown7
    have HM7:=zh (show Mod No w w7 from ((HM.out.trans HM0.out).trans ((Mod.refl No w0).alloc (.cells ([Value.agg vs.toArray].flatMap (fun v=>v.cells.toList)).toArray 40))).then (Mod.of_grown (S:=fun q=>w.heap.size<=q) hg7 (fun q e _=>own_base HO0.out e)) (fun q hq e=>Nat.lt_irrefl _ (Nat.lt_of_lt_of_le hq e)))
    clear hown7 hg7 hi0 hz0 hz1 hz2
    go_wp2_with fail
    refine ⟨⟨k+1,m+1,v7,by omega,rfl,rfl,by rw [HVT.out,List.length_append,<- HMM.out];rfl,by omega,?_,HM7.out⟩,by show n - ((k:Int)+1).toNat < n - (k:Int).toNat;omega⟩
    have h9:=HO7.out
    rw [HVT.out,List.flatMap_append]
    have e9:List.flatMap VrX.cells [(⟨y.r.v,y.pv⟩:VrX)]=vs:=by rw [HVS.out];rfl
    rw [e9]
    exact h9
   ·have hbe:((⟨y.r.name.toArray⟩:ByteArray).toList == ZM.toList)=false:=by
     rw [hT1,hT2]
     rcases hb:(y.r.name == name) with _ | _
     ·rfl
     ·exact absurd (eq_of_beq hb) he
    rw [if_neg he,List.append_nil] at HVT
    generalize (⟨y.r.name.toArray⟩:ByteArray)=ZY at *
    clear hT1 hT2 he
    go_wp2_with fail
    exact ⟨⟨k+1,m,_,by omega,rfl,rfl,by rw [HVT.out];exact HMM.out,by omega,by rw [HVT.out];exact HO0.out,HM.out.trans HM0.out⟩,by show n - ((k:Int)+1).toNat < n - (k:Int).toNat;omega⟩
  ·obtain rfl:k=n:=by omega
   have hk1:¬ ((k:Int) < (k:Int)):=by omega
   have hml:xs.take k=xs:=List.take_of_length_le (by rw [HN.out];exact Nat.le_refl _)
   have HE2:=zh (HEA.out k)
   rw [hml] at HO HMM HE2
   clear hml
   generalize versOf name xs=L at *
   have HH:=zh (show ∃ g rest,VrHeap wr sa L g rest/\(L ≠ []->w.heap.size<=g/\m<=sc/\sc<=maxLen) from by
    by_cases hne:L=[]
    ·exact ⟨0,[],.inl hne,fun h=>absurd hne h⟩
    ·obtain ⟨-,⟨-,h0⟩ | ⟨g,cap,cur,hvv,hbase,hb,h1,h2,h3,h4⟩⟩:=HO.out
     ·have:=HMM.out
      rw [h0] at this
      exact absurd (List.length_eq_zero_iff.1 this.symm) hne
     ·have hsa:sa=some ⟨g,0,none⟩:=by cases hvv;rfl
      have hcap:sc=cap:=by cases hvv;rfl
      subst hsa
      subst hcap
      refine ⟨g,cur.toList.drop (m*4),.inr ⟨rfl,?_,fun x hx=>⟨(HE2.out x hx).1,((HE2.out x hx).2.kn HM.out).shrink (fun q _ e=>by rw [e];exact hbase)⟩⟩,fun _=>⟨hbase,h1,h2⟩⟩
      rw [<- h4,List.take_append_drop,Array.toArray_toList]
      exact hb)
   obtain ⟨g,rest,hh,hge⟩:=HH.out
   have HGE:=zh hge
   have HS:=zh (show Calls prog 57 #[.slice sa m sc,.func (.func 58) #[] #[]] wr fun e w' =>
     e=.returned (.tuple #[])/\VrHeap w' sa (sortR ltVx L) g rest/\Mod (fun q=>q=g/\L ≠ []) wr w' by
    have h:=sortstableV_any L (by rw [<- HMM.out];omega) sa g sc rest wr hh
    rw [<- HMM.out] at h
    exact h)
   clear HH hh hge
   go_wp2_with fail
   with_reducible refine HS.out.mono ?_
   rintro e w2 ⟨rfl,hh2,hm2⟩
   have HH2:=zh hh2
   have HM2:=zh (show Mod No w w2 from HM.out.then hm2 (fun q hq e=>by have h1:=(HGE.out e.2).1;rw [e.1] at hq;omega))
   have HM2b:=zh hm2
   clear hh2 hm2 HS
   go_wp2_with fail
   refine fin hR ⟨_,rfl,⟨fun y hy=>?_,?_⟩,HM2.out⟩
   ·have h:=HE2.out y ((sortR_mem _ _ _).1 hy)
    exact ⟨h.1,(h.2.shrink (fun _ _ f=>f.elim)).kn HM2.out⟩
   ·rw [sortR_length,<- HMM.out]
    by_cases hne:L=[]
    ·have h:=(Sl.of_own (X:=No) HO.out (fun _ _ f=>f)).keep HM2b.out (fun k cur fz hk _=>absurd hne hk.2)
     rw [hne] at h ⊢
     exact h
    ·rcases HH2.out with h0 | ⟨e1,e2,-⟩
     ·have h5:=sortR_length ltVx L
      rw [h0] at h5
      exact absurd (List.length_eq_zero_iff.1 h5.symm) hne
     obtain ⟨h1,h2,h3⟩:=HGE.out hne
     subst e1
     refine .inr ⟨g,0,sc,_,(0,0),rfl,h2,h3,fun f=>f,e2,?_,fun i hi=>?_⟩
     ·simp
     ·rw [Nat.zero_add,List.getElem?_toArray,List.getElem?_append_left hi]
end Go.Proofs.YtgiigemfbebcgaaGreatDoor
