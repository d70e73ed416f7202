/-
  Layers 0 to 14: helps of the laws of indexes. No statement is proved here; no condition.
-/
import Derived.Test.YtgiigemfbebcgaaGreatDoorQ03
import Derived.Test.YtgiigemfbebcgaaGreatDoorQ28
import Derived.Test.YtgiigemfbebcgaaGreatDoorQ07
import Derived.Test.YtgiigemfbebcgaaGreatDoorQ01
import Derived.Test.YtgiigemfbebcgaaGreatDoorQ14
import Derived.Test.YtgiigemfbebcgaaGreatDoorQ15
import Derived.Test.YtgiigemfbebcgaaGreatDoorQ02
import Derived.Sort.OwnSorted
import Derived.ChangeKeysEq
namespace Go.Proofs.YtgiigemfbebcgaaGreatDoor
open _root_.Go.Proofs.Tryz
open Go.RowKit Go.Sort Go.Lib
theorem compact_le (zs:List (List UInt8)):(Lib.compact zs).length<=zs.length:=by
 unfold Lib.compact compactUpTo
 rw [List.length_map]
 exact Nat.le_trans (List.length_filter_le _ _) (by rw [List.length_range];exact Nat.le_refl _)
set_option maxRecDepth 100000 in
set_option maxHeartbeats 16000000 in
theorem names_any (xs:List RwX) (hl:xs.length<=1000000) (v:Value) (w:World) (hx:∀ x ∈ xs,RwAt w x) (hv:Sl w No 46 v xs.length (xs.flatMap RwX.cells)) :
  Calls prog 19 #[v] w fun e w'=>∃ (v':Value) (out:List (List UInt8)),e=.returned v'/\Sl w' No 9 v' out.length (strs out)/\Asc out/\(∀ y,y ∈ out ↔ y ∈ xs.map (fun x=>x.r.name))/\Mod No w w':=by
 refine calls_hide fun R hR=>?_
 have HX:=zh hx
 obtain ⟨va,vc,rfl⟩:=hv.len
 obtain ⟨n,hn⟩:∃ n,n=xs.length:=⟨_,rfl⟩
 rw [<- hn] at hl ⊢
 have HN:=zh hn
 have HV:=zh (show Sl w No 46 (.slice va n vc) n (xs.flatMap RwX.cells) by rw [hn];exact hv)
 obtain ⟨i0,hi0,hz0,hz1,hz2⟩:=info_parts info_str
 have HI:=zh (And.intro hi0 (And.intro hz0 (And.intro hz1 hz2)))
 clear hi0 hz0 hz1 hz2 hx hv hn
 go_enter func19,ntmps19
 go_wp2_with fail
 go_loopw [3,8] (fun q3 q8 wr=>∃ (k:Nat) (v:Value),k<=n/\q8=.int .i64 (k:Int)/\q3=v/\wr.ownsRow w.heap.size 9 1 v k (strs ((xs.take k).map (fun x=>x.r.name)))/\Mod No w wr) (fun _ q _=>n - (intOf q).toNat)
 case atStart=>exact ⟨0,.slice none 0 0,by omega,rfl,rfl,⟨rfl,.inl ⟨rfl,rfl⟩⟩,Mod.refl _ _⟩
 case round =>
  obtain ⟨k,v,hk,rfl,rfl,hown,hm⟩:=hrel
  have HM:=zh hm
  have HO:=zh hown
  have hk0:(0:Int)<=(k:Int):=Int.natCast_nonneg _
  obtain ⟨sa,sc,hsv⟩:=own_len hown
  subst hsv
  clear hm hown
  by_cases hlt:k < n
  ·have hk1:(k:Int) < (n:Int):=by omega
   have hkl:k < xs.length:=by rw [<- HN.out];exact hlt
   obtain ⟨b,o,c,hvs,_⟩:=HV.out.shape (by omega)
   have hva:va=some ⟨b,o,none⟩:=by cases hvs;rfl
   subst hva
   have HRG:=zh (HM.out.rangeAt (Sl.atM (fun x hx=>RwX.cells_length x (HX.out x hx).ok.sum) HV.out hkl) (fun f=>f))
   have HTK:=zh (show strs ((xs.take (k+1)).map (fun x=>x.r.name))=strs ((xs.take k).map (fun x=>x.r.name))++[strV xs[k].r.name] by
    rw [List.take_succ_eq_append_getElem hkl,List.map_append,strs_append];rfl)
   have HXK:=zh ((HX.out _ (List.getElem_mem hkl)).ok.keep HM.out (Apart.no _ _))
   generalize xs[k]=y at *
   have HL39:=zh (RwX.cells_length y HXK.out.sum)
   obtain ⟨cs,hcs⟩:∃ cs,cs=RwX.cells y:=⟨_,rfl⟩
   rw [<- hcs] at HRG HL39
   have HCS:=zh hcs
   clear hcs hvs
   go_upto_region 5 with (first | (refine wpList_load_mid rfl 46 _ rfl b (o+k*39) rfl cs _ HRG.out underlying46 rfl (by rw [HL39.out];exact row_info) ?_) | (refine wpList_store_row rfl 46 _ _ rfl wr.heap.size cs.toArray rfl rfl 46 _ (heap_alloc_new wr _) (by rw [List.size_toArray,HL39.out];exact row_info) (by show _=cs.length;rw [HL39.out];rfl) (by rw [HCS.out];exact rows_one HXK.out) ?_))
   obtain ⟨gb,hgb⟩:∃ g,g=wr.heap.size:=⟨_,rfl⟩
   rw [<- hgb]
   generalize hw0:World.setRow _ gb cs.toArray=w0
   have HM0:=zh (show Mod No wr w0 by rw [<- hw0,hgb];exact ((Mod.refl No wr).alloc _).setRow (fun h=>absurd h (by omega)) _)
   have hga:w0.heap[gb]? = some (.cells cs.toArray 46 (0,0)):=by rw [<- hw0,hgb];exact setRow_heap _ _ _ _ _ _ (heap_alloc_new wr _)
   have hc0:=cell_ofA hga (i:=0) (v:=strV y.r.name) (by rw [List.getElem?_toArray,HCS.out];rfl)
   have HO0:=zh (own_keepM HO.out HM0.out (fun _ _ f=>f))
   clear hgb hw0 hga
   unfold strV at hc0 HTK
   generalize (⟨y.r.name.toArray⟩:ByteArray)=ZN at *
   obtain ⟨hi0,hz0,hz1,hz2⟩:=HI.out
   go_wp2_with (at_builtin;refine app_sl _ rfl _ _ 38 rfl w.heap.size 9 i0 (.string ⟨#[]⟩) 1 16 underlying38 hi0 hz0 hz1 hz2 rfl (by decide) _ k _ rfl (own_keepM HO0.out ((Mod.refl No w0).alloc _) (fun _ _ f=>f)) No 9 (.slice (some ⟨w0.heap.size,0,none⟩) 1 1) 1 [.string ZN] rfl (.inr ⟨w0.heap.size,0,1,_,_,rfl,Nat.le_refl _,by unfold maxLen;omega,fun f=>f,heap_alloc_new w0 _,by simp,fun i hi=>by simp⟩) rfl (fun u hu=>by rw [List.mem_singleton.1 hu];rfl) (by unfold maxLen;omega) (by omega) (Nat.le_trans HM.out.size (Nat.le_trans HM0.out.size ((Mod.refl No w0).alloc _).size)) ?_;intro v7 w7 hown7 hg7 _;have HO7:=zh hown7;have HG7:=zh hg7;clear hown7 hg7)
   have HM7:=zh (show Mod No w w7 from ((HM.out.trans HM0.out).trans ((Mod.refl No w0).alloc (.cells #[.string ZN] 9))).then (Mod.of_grown (S:=fun q=>w.heap.size<=q) HG7.out (fun q e _=>own_base HO0.out e)) (fun q hq e=>Nat.lt_irrefl _ (Nat.lt_of_lt_of_le hq e)))
   exact ⟨⟨k+1,v7,by omega,rfl,rfl,by rw [HTK.out];exact HO7.out,HM7.out⟩,by show n - ((k:Int)+1).toNat < n - (k:Int).toNat;omega⟩
  ·obtain rfl:k=n:=by omega
   have hk1:¬ ((k:Int) < (k:Int)):=by omega
   have hml:xs.take k=xs:=List.take_of_length_le (by rw [HN.out];exact Nat.le_refl _)
   rw [hml] at HO
   clear hml
   rcases Nat.eq_zero_or_pos k with rfl | hpos
   ·have HXN:=zh (show xs=[] from List.length_eq_zero_iff.1 HN.out.symm)
    have HS:=zh (Tryz.slices_Sort_string_none sa sc wr)
    have HC:=zh (Tryz.slices_Compact_string_empty sa sc wr)
    go_wp2_with fail
    with_reducible refine HS.out.mono ?_
    rintro e w9 ⟨rfl,rfl⟩
    go_wp2_with fail
    with_reducible refine HC.out.mono ?_
    rintro e w8 ⟨rfl,rfl⟩
    go_wp2_with fail
    exact fin hR ⟨_,[],rfl,by have h:=Sl.of_own (X:=No) HO.out (fun _ _ f=>f);rw [HXN.out] at h;exact h,List.Pairwise.nil,by rw [HXN.out];simp,HM.out⟩
   ·obtain ⟨ss,hss⟩:∃ ss,ss=xs.map (fun x=>x.r.name):=⟨_,rfl⟩
    have hlen:ss.length=k:=by rw [hss,List.length_map,HN.out]
    have hown:wr.ownsRow w.heap.size 9 1 (.slice sa k sc) k (strs ss):=by rw [hss];exact HO.out
    have HSS:=zh hss
    obtain ⟨-,⟨-,h0⟩ | ⟨g,cap,cur,hvv,hbase,hb,h1,h2,h3,h4⟩⟩:=hown
    ·omega
    have hsa:sa=some ⟨g,0,none⟩:=by cases hvv;rfl
    have hcap:sc=cap:=by cases hvv;rfl
    subst hsa
    subst hcap
    have hS:=Tryz.slices_Sort_string g 0 sc ss wr (holds_of_block hb (by rw [hlen];rw [Nat.mul_one] at h4;exact h4)) (lt_of_heap hb) (by omega)
    obtain ⟨zs,hzs⟩:∃ zs,zs=ss.mergeSort fun x y=>decide (x<=y):=⟨_,rfl⟩
    rw [<- hzs] at hS
    have hzl:zs.length=ss.length:=by rw [hzs];simp
    obtain ⟨hasc,hmem⟩:=names_sorted ss
    rw [<- hzs] at hasc hmem
    have HASC:=zh hasc
    have HMEM:=zh hmem
    have HW2:=zh (show ∀ w2,(∃ n os,w2=grow (putRow encStr (Sort.ahead wr n) g 0 zs.toArray) os)->w2.ownsRow w.heap.size 9 1 (.slice (some ⟨g,0,none⟩) k sc) k (zs.map encStr)/\Mod No w w2 from fun w2 ⟨n,os,hw⟩=>by
     subst hw
     refine ⟨by rw [<- hlen];exact ownsRow_sorted hzl hbase hb (by omega) h2 (by omega),HM.out.then (Mod.of_grown (S:=fun q=>w.heap.size<=q) (grownBy_sorted _) (fun q e _=>by cases e;exact hbase)) (fun q hq e=>Nat.lt_irrefl _ (Nat.lt_of_lt_of_le hq e))⟩)
    have HZL:=zh (hzl.trans hlen)
    rw [hlen] at hS
    have HS:=zh hS
    clear hS hss hzs hzl hasc hmem hvv hb h1 h2 h3 h4 hbase hlen
    go_wp2_with fail
    with_reducible refine HS.out.mono ?_
    rintro e w2 ⟨rfl,hw2⟩
    obtain ⟨hown2,hm2⟩:=HW2.out w2 hw2
    have HM2:=zh hm2
    clear hw2 HW2 HS hm2
    obtain ⟨-,⟨-,h0⟩ | ⟨g',cap',cur,hvv,hbase,hb,h1,h2,h3,h4⟩⟩:=hown2
    ·omega
    have hg:g=g':=by cases hvv;rfl
    have hcap:sc=cap':=by cases hvv;rfl
    subst hg
    subst hcap
    have hC:=Tryz.slices_Compact_string g 0 sc zs w2 (holds_of_block hb (by rw [HZL.out];rw [Nat.mul_one] at h4;exact h4)) (by rw [HZL.out];omega) (by rw [HZL.out];omega)
    have hcl:=compact_le zs
    obtain ⟨cp,hcp⟩:∃ cp,cp=Lib.compact zs:=⟨_,rfl⟩
    rw [<- hcp] at hC HASC HMEM hcl
    have HW3:=zh (show ∀ w3,(∃ q,w3=putRow encStr (Sort.ahead w2 q) g 0 (cp++List.replicate (zs.length - cp.length) []).toArray)->Sl w3 No 9 (.slice (some ⟨g,0,none⟩) cp.length sc) cp.length (strs cp)/\Mod No w w3 from fun w3 ⟨q,hw⟩=>by
     replace hw:=hw.trans (grow_empty _).symm
     subst hw
     have hzk:=HZL.out
     have ht:(cp++List.replicate (zs.length - cp.length) []).length=zs.length:=by rw [List.length_append,List.length_replicate];omega
     have ho:=ownsRow_sorted (os:=#[]) (n:=q) ht hbase hb (by omega) h2 (by omega)
     refine ⟨?_,HM2.out.then (Mod.of_grown (S:=fun q=>w.heap.size<=q) (grownBy_sorted _) (fun q e _=>by cases e;exact hbase)) (fun q hq e=>Nat.lt_irrefl _ (Nat.lt_of_lt_of_le hq e))⟩
     have h9:=(Sl.of_own (X:=No) ho (fun _ _ f=>f)).takeN (m:=cp.length) (by rw [List.length_map,ht]) hcl
     rw [List.map_append,List.take_left' (by rw [List.length_map])] at h9
     exact h9)
    rw [HZL.out] at hC
    have HC:=zh hC
    clear hC hcp hvv hb h1 h2 h3 h4 hbase hcl
    go_wp2_with fail
    with_reducible refine HC.out.mono ?_
    rintro e w3 ⟨rfl,hw3⟩
    obtain ⟨hs3,hm3⟩:=HW3.out w3 (by rw [HZL.out];exact hw3)
    have HS3:=zh hs3
    have HM3:=zh hm3
    clear hw3 HW3 HC hs3 hm3
    go_wp2_with fail
    exact fin hR ⟨_,cp,rfl,HS3.out,HASC.out,by rw [<- HSS.out];exact HMEM.out,HM3.out⟩
end Go.Proofs.YtgiigemfbebcgaaGreatDoor
namespace Go.Proofs.YtgiigemfbebcgaaGreatDoor
open _root_.Go.Proofs.Tryz
open Go.RowKit Go.Maps
theorem part_u8 {S:List UInt8} {i:Nat} (hi:i < S.length) (W:World):Sem.run prog (part 5 (bv S).toArray i) W=.ok (.int .u8 (bf S i)) W:=by
 have h4:(isAgg 5).run prog W=.ok false W:=by kernel_rfl
 have h3:(bv S).toArray[i]? = some (.int .u8 (bf S i)):=by rw [List.getElem?_toArray];exact bv_bf hi
 unfold part
 simp only [Sem.run_bind,h4,Result.andThen_ok,h3,Bool.false_eq_true,if_false,Sem.run_pure]
theorem eqItems_key {S T:List UInt8} (hS:S.length=32) (hT:T.length=32) (W:World):∀ is:List Nat,(∀ i ∈ is,i < 32) →
  (Op.eqItems 9999 5 1 (bv S).toArray (bv T).toArray is).run prog W=.ok (is.all fun i=>bf S i == bf T i) W
 | [],_=>by simp [Op.eqItems]
 | i :: is,h=>by
  have hi:=h i (by simp)
  simp only [Op.eqItems,Sem.run_bind,Nat.mul_one,part_u8 (show i < S.length by omega),part_u8 (show i < T.length by omega),Result.andThen_ok,run_equalIn_int W 9998 5 .u8 .u8 _ _ underlying5,List.all_cons]
  cases hb:(bf S i == bf T i)
  ·simp
  ·simp [eqItems_key hS hT W is fun j hj=>h j (by simp [hj])]
theorem bf_ext {S T:List UInt8} (hS:S.length=32) (hT:T.length=32) (h:∀ i,i < 32->bf S i=bf T i):S=T:=by
 apply List.ext_getElem (by omega)
 intro i h1 h2
 have h3:=h i (by omega)
 unfold bf at h3
 rw [List.getD_eq_getElem?_getD,List.getD_eq_getElem?_getD,List.getElem?_eq_getElem h1,List.getElem?_eq_getElem h2] at h3
 exact UInt8.toNat_inj.1 (Int.ofNat_inj.1 (by simpa using h3))
theorem eqAll_key {S T:List UInt8} (hS:S.length=32) (hT:T.length=32):((List.range 32).all fun i=>bf S i == bf T i)=decide (S=T):=by
 by_cases h:S=T
 ·subst h;simp
 ·rw [decide_eq_false h,List.all_eq_false]
  refine Classical.byContradiction fun hn=>h (bf_ext hS hT fun i hi=>?_)
  refine Classical.byContradiction fun hne=>hn ⟨i,List.mem_range.2 hi,by simpa using hne⟩
theorem run_eq_key {S T:List UInt8} (hS:S.length=32) (hT:T.length=32) (W:World):(binOp .eql 43 (keyV S) (keyV T)).run prog W=.ok (.bool (decide (S=T))) W:=by
 obtain ⟨i0,hi,-⟩:=info_parts info_byte
 have hc:prog.cellsOf 5=1:=by kernel_rfl
 rw [run_eql_struct,run_equalIn_array W 9999 _ _ underlying43 hi,hc,eqItems_key hS hT W _ (fun i hi=>List.mem_range.1 hi),eqAll_key hS hT]
 rfl
theorem key_guard:prog.eqGuardType prog.depth 43=false:=by kernel_rfl
theorem yeq {w:World} {S T:List UInt8} {o:Oper} {ρ:Operand->Value} (hS:S.length=32) (hT:T.length=32) (x y:Operand) (rt:TypeId) (ho:o.op=.binOp .eql 43 x y rt) (hx:ρ x=keyV S) (hy:ρ y=keyV T) :
  (execOp ρ o).run prog w=.ok (.value (.bool (decide (S=T)))) w:=by
 unfold execOp
 simp only [ho,hx,hy,Sem.run_bind,Sem.run_pure,run_eqGuard_agg w .eql 43 x y _ _ key_guard,Result.andThen_ok,run_eq_key hS hT]
end Go.Proofs.YtgiigemfbebcgaaGreatDoor
