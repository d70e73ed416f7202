/-
  Layers 0 to 14: helps of the laws of indexes. No statement is proved here; no condition.
-/
import Derived.Test.YtgiigemfbebcgaaGreatDoorT16
import Derived.Test.YtgiigemfbebcgaaGreatDoorT18
import Derived.Test.YtgiigemfbebcgaaGreatDoorT09
import Derived.Test.YtgiigemfbebcgaaGreatDoorT11
import Derived.Test.YtgiigemfbebcgaaGreatDoorT17
import Derived.Test.YtgiigemfbebcgaaGreatDoorT03
import Derived.Lib.Builder
import Derived.Lib.AppendStr
namespace Go.Proofs.YtgiigemfbebcgaaGreatDoor
open _root_.Go.Proofs.Tryz
open Go.RowKit
abbrev IsBld (B b:Nat) (l:List UInt8) (w:World):Prop:=Lib.IsBuilder 115 5 B b (bv l) w
theorem bld_at_keep {S:Nat->Prop} {w w':World} {B b:Nat} {p:Value} {bs:List Value} (h:Lib.BuilderAt 115 5 B b p bs w) (hm:Mod S w w') (hb:¬ S b) (hu:∀ k c fz,S k->w.heap[k]? ≠ some (.cells c 5 fz)) :
  Lib.BuilderAt 115 5 B b p bs w':=by
 obtain ⟨h1,v,h2,h3,h4⟩:=h
 refine ⟨h1,v,hm.keep h2 hb,own_keepM h3 hm (fun k hk hs=>?_),h4⟩
 obtain ⟨c,hc⟩:=own_heapM h3 hk
 exact hu k _ _ hs hc
theorem bld_keep {S:Nat->Prop} {w w':World} {B b:Nat} {l:List UInt8} (h:IsBld B b l w) (hm:Mod S w w') (hb:¬ S b) (hu:∀ k c fz,S k->w.heap[k]? ≠ some (.cells c 5 fz)):IsBld B b l w' :=
 h.elim (fun h=>.inl (bld_at_keep h hm hb hu)) (fun h=>.inr (bld_at_keep h hm hb hu))
theorem builder_size:(prog.info? 115).map (·.size)=some 2:=by kernel_rfl
set_option maxRecDepth 100000 in
theorem cc_fresh (b:Nat) (w:World) (h0:w.cell? ⟨b,0,none⟩=some (.pointer none)) (hsh:w.shape? b=some (115,2)) (hfz:w.frozen? ⟨b,0,none⟩=false) :
  Calls prog 96 #[.pointer (some ⟨b,0,none⟩)] w fun e w'=>e=.returned (.tuple #[])/\w'=w.setCell ⟨b,0,none⟩ (.pointer (some ⟨b,0,none⟩)):=by
 obtain ⟨j,hj,hjs⟩:=Option.map_eq_some_iff.1 builder_size
 go_enter func96,ntmps96
 go_wp2
 rw [Lib.run_to_unsafe w ⟨b,0,none⟩ underlying113 underlying179 hj (by rw [hjs];decide) hsh (Nat.zero_lt_succ 1)]
 simp only [Result.andThen]
 rw [Oper.upon_value]
 go_wp2
 rw [run_callFunc_extern func131 (by kernel_rfl) (by kernel_rfl) (by kernel_rfl) (e:=Extern.AbiNoEscape.same) (by kernel_rfl)]
 rw [Lib.run_noEscape]
 simp only [Result.andThen]
 rw [Oper.upon_value]
 go_wp2
 rw [Lib.run_from_unsafe w ⟨b,0,none⟩ underlying179 underlying113 hj hsh (by kernel_rfl)]
 simp only [Result.andThen]
 rw [Oper.upon_value]
 go_wp2
 go_end0
 exact ⟨rfl,rfl⟩
set_option maxRecDepth 100000 in
theorem cc_used (b:Nat) (w:World) (h0:w.cell? ⟨b,0,none⟩=some (.pointer (some ⟨b,0,none⟩))) :
  Calls prog 96 #[.pointer (some ⟨b,0,none⟩)] w fun e w'=>e=.returned (.tuple #[])/\w'=w:=by
 obtain ⟨j,hj,hjs⟩:=Option.map_eq_some_iff.1 builder_size
 have hne:∀ w:World,(binOp .neq 113 (.pointer (some ⟨b,0,none⟩)) (.pointer (some ⟨b,0,none⟩))).run prog w=.ok (.bool false) w:=fun w=>Lib.run_neq_ptr_same w _ underlying113 hj
 go_enter func96,ntmps96
 go_wp2
 go_end0
 exact ⟨rfl,rfl⟩
theorem cc_any (B b:Nat) (l:List UInt8) (w:World) (h:IsBld B b l w) :
  Calls prog 96 #[.pointer (some ⟨b,0,none⟩)] w fun e w'=>e=.returned (.tuple #[])/\Lib.BuilderAt 115 5 B b (.pointer (some ⟨b,0,none⟩)) (bv l) w'/\Mod (fun q=>q=b) w w':=by
 rcases h with h | h
 ·refine (cc_fresh b w h.cell0 h.shape h.frozen0).mono ?_
  rintro e w' ⟨rfl,rfl⟩
  exact ⟨rfl,h.used _,Mod.cell1 _ _ _ _⟩
 ·refine (cc_used b w h.cell0).mono ?_
  rintro e w' ⟨rfl,rfl⟩
  exact ⟨rfl,h,Mod.refl _ _⟩
def Wrt (B b:Nat) (w:World):Nat->Prop:=fun q=>q=b\/(B<=q/\∃ c fz,w.heap[q]? = some (.cells c 5 fz))
set_option maxRecDepth 100000 in
set_option maxHeartbeats 4000000 in
theorem ws_any (B b:Nat) (l s:List UInt8) (hl:l.length<=1000000) (hs:s.length<=1000000) (w:World) (h:IsBld B b l w) (hB:B<=w.heap.size) :
  Calls prog 70 #[.pointer (some ⟨b,0,none⟩),strV s] w fun e w'=>(∃ v,e=.returned v)/\IsBld B b (l++s) w'/\Mod (Wrt B b w) w w':=by
 refine calls_hide fun R hR=>?_
 have HCC:=zh (cc_any B b l w h)
 have HSB:=zh (strcells_bv s)
 have HZ:=zh (str_len3 s)
 obtain ⟨i0,hi0,hz0,hz1,hz2⟩:=info_parts info_byte
 have HI:=zh (And.intro hi0 (And.intro hz0 (And.intro hz1 hz2)))
 have HBV:=zh (show (bv l).length=l.length by simp [bv])
 unfold strV
 generalize (⟨s.toArray⟩:ByteArray)=Z at *
 clear h hi0 hz0 hz1 hz2
 go_enter func70,ntmps70
 go_wp2_with fail
 with_reducible refine HCC.out.mono ?_
 rintro e w1 ⟨rfl,⟨hBb,v,hb,hown,hne⟩,hm⟩
 rw [HBV.out] at hown
 have HO:=zh hown
 have HM:=zh hm
 have hc:=cell_ofA hb (i:=1) rfl
 have HB1:=zh hb
 have HNE:=zh hne
 obtain ⟨hi0,hz0,hz1,hz2⟩:=HI.out
 clear hb hown hm HCC hne
 go_wp2_with (at_builtin;refine Lib.wpList_append_own_string _ rfl _ _ 29 9 rfl B 5 i0 underlying29 underlying9 hi0 hz0 hz1 hz2 v _ _ rfl HO.out Z rfl (by have:=HZ.out;unfold maxLen;omega) (by have:=HZ.out;omega) (Nat.le_trans hB HM.out.size) ?_;intro v2 w2 hown2 hg2 _;obtain ⟨sa,sc,hsv⟩:=own_len hown2;subst hsv;have HO2:=zh hown2;have HG2:=zh hg2;clear hown2 hg2;have hb2:=(HG2.out.block b (lt_of_heap HB1.out) (fun e=>HNE.out e.symm)).trans HB1.out;have hfz:=frozen_of 1 hb2;have hc2:=cell_ofA hb2 (i:=1) rfl)
 obtain ⟨v2,hv2⟩:∃ v2,v2=Value.slice sa (l.length+Z.size) sc:=⟨_,rfl⟩
 rw [<- hv2] at HO2 ⊢
 clear hv2
 have HB2:=zh hb2
 have HNB:=zh (show ∀ k,v2.ownBlock=some k->¬ k=b from fun k hk e=>by
  obtain ⟨c,hc⟩:=own_heapM HO2.out hk
  rw [e,HB2.out] at hc
  have h7:=Obj.cells.inj (Option.some.inj hc)
  exact absurd h7.2.1 (by decide))
 have HM3:=zh (show Mod (Wrt B b w) w (w2.setCell ⟨b,1,none⟩ v2) from by
  refine Mod.then (T:=fun q=>q=b) (Mod.then (T:=fun q=>v.ownBlock=some q) (HM.out.weaken (fun k _ e=>.inl e)) (Mod.of_grown HG2.out (fun k hk _=>hk)) (fun i hi e=>?_)) (Mod.cell1 w2 b 1 v2) (fun i _ e=>.inl e)
  obtain ⟨c,hc⟩:=own_heapM HO.out e
  have hnb:¬ i=b:=fun e2=>HNE.out (by rw [<- e2];exact e)
  rw [HM.out.block i hi hnb] at hc
  exact .inr ⟨own_base HO.out e,c,_,hc⟩)
 have HR2:=zh (show IsBld B b (l++s) (w2.setCell ⟨b,1,none⟩ v2) from by
  have hlen:(bv (l++s)).length=l.length+Z.size:=by have:=HZ.out;simp [bv];omega
  have e2:bv l++Lib.strCells Z=bv (l++s):=by rw [HSB.out];simp [bv]
  refine .inr ⟨hBb,v2,heap_setCell HB2.out v2,own_keepM ?_ (Mod.cell1 w2 b 1 v2) HNB.out,fun e=>HNB.out b e rfl⟩
  rw [hlen,<- e2]
  exact HO2.out)
 exact fin hR ⟨⟨_,rfl⟩,HR2.out,HM3.out⟩
set_option maxRecDepth 100000 in
theorem notmark_any (l:List UInt8) (hl:l.length<=1000000) (w:World):Calls prog 142 #[strV l] w fun e w'=>e=.returned (.bool (!markB l))/\Mod No w w':=by
 refine calls_hide fun R hR=>?_
 have HMK:=zh (mark_any l hl)
 generalize (⟨l.toArray⟩:ByteArray)=Z at *
 go_enter func142,ntmps142
 go_wp2_with fail
 with_reducible refine (HMK.out _).mono ?_
 rintro e w ⟨rfl,rfl⟩
 generalize markB l=b at *
 go_wp2_with fail
 exact fin hR ⟨rfl,Mod.refl _ _⟩
abbrev Old (w:World):Nat->Prop:=fun p=>p < w.heap.size
set_option maxRecDepth 100000 in
set_option maxHeartbeats 4000000 in
theorem verparse_any (l:List UInt8) (hl:l.length<=1000000) (w:World) (hg:Gl w) :
  Calls prog 106 #[strV l] w fun e w'=>((verOf l=none/\e=.returned (.tuple #[verV ⟨0,0,0,[]⟩ (.slice none 0 0),.int .i64 60]))\/∃ v pv,verOf l=some v/\e=.returned (.tuple #[verV v pv,.int .i64 0])/\Sl w' (Old w) 9 pv v.pre.length (strs v.pre))/\Mod No w w':=by
 refine calls_hide fun R hR=>?_
 have HCUT:=zh (cut_any 45 l hl)
 have HSP:=zh (fun m (h:m.length<=l.length)=>split_any 46 m (by omega))
 have hh:=headC_le 45 l
 have ht:=tailC_le 45 l
 have HNUM:=zh (fun m (h:m.length<=l.length)=>number_any m (by omega))
 have HCF:=zh (fun (xs:List (List UInt8)) (h:∀ x ∈ xs,x.length<=l.length) (hx:xs.length<=1000000) v w hv=>containsfunc_strs 142 #[] (fun _ _=>rfl) (fun x=>!markB x) xs hx v w hv (fun i hi W _=>notmark_any xs[i] (by have:=h xs[i] (List.getElem_mem hi);omega) W))
 have HSM:=zh (splitC_mem_le 46)
 have HSL:=zh (splitC_length_le 46)
 have HVL:=zh (verOf_len (l:=l))
 have HG:=zh hg
 clear hg
 go_enter func106,ntmps106
 go_wp2_with fail
 obtain ⟨rb,hrb⟩:∃ g,g=w.heap.size:=⟨_,rfl⟩
 rw [<- hrb]
 generalize hw1:World.alloc w _=w1
 have HM1:=zh (show Mod No w w1 by rw [<- hw1];exact (Mod.refl No w).alloc _)
 have HR1:=zh (show w1.heap[rb]? = some (.cells #[.int .i64 0,.int .i64 0,.int .i64 0,.slice none 0 0] 40 (0,0)) by rw [<- hw1,hrb];exact heap_alloc_new w _)
 have HRB:=zh hrb
 clear hw1 hrb
 with_reducible refine (HCUT.out _ (HG.out.stay HM1.out (fun f=>f))).mono ?_
 rintro e w2 ⟨rfl,hm2⟩
 have HM2:=zh (HM1.out.trans hm2)
 have HR2:=zh (hm2.keep HR1.out (fun f=>f))
 clear hm2 HR1 HM1
 go_wp2_with fail
 with_reducible refine (HSP.out _ hh _ (HG.out.stay HM2.out (fun f=>f))).mono ?_
 rintro e w3 ⟨pv,rfl,hown,hm3⟩
 have HM3:=zh (HM2.out.trans hm3)
 have HR3:=zh (hm3.keep HR2.out (fun f=>f))
 have HP3:=zh (Sl.of_own (X:=No) hown (fun _ _ f=>f))
 clear hm3 HR2 HM2 hown
 obtain ⟨pa,pc,rfl⟩:=HP3.out.len
 go_upto_region 4 with fail
 obtain ⟨nb,hnb⟩:∃ g,g=w3.heap.size:=⟨_,rfl⟩
 rw [<- hnb]
 generalize hw4:World.alloc w3 _=w4
 have HM4:=zh (show Mod No w w4 by rw [<- hw4];exact HM3.out.alloc _)
 have HR4:=zh (show w4.heap[rb]? = some (.cells #[.int .i64 0,.int .i64 0,.int .i64 0,.slice none 0 0] 40 (0,0)) by rw [<- hw4];exact heap_alloc_old _ HR3.out)
 have HN4:=zh (show w4.heap[nb]? = some (.cells #[.int .i64 0,.int .i64 0,.int .i64 0] 186 (0,0)) by rw [<- hw4,hnb];exact heap_alloc_new w3 _)
 have HP4:=zh (show Sl w4 No 9 (.slice pa _ pc) _ _ by rw [<- hw4];exact HP3.out.kn ((Mod.refl No w3).alloc _))
 have HNB:=zh (show w.heap.size < nb by have h1:=HM3.out.size;have h2:=lt_of_heap HR3.out;have h3:=HRB.out;omega)
 clear HM3 HR3 HP3 hw4 hnb
 have hx1:∀ x ∈ splitC 46 (headC 45 l),x.length<=l.length:=fun x hx=>by have:=HSM.out _ x hx;omega
 have hv3:=HVL.out
 have h3v:=fun a b c=>verOf_three (l:=l) (a:=a) (b:=b) (c:=c)
 generalize splitC 46 (headC 45 l)=ps at *
 by_cases h3:ps.length=3
 ·obtain ⟨pA,pB,pC,rfl⟩:∃ pA pB pC,ps=[pA,pB,pC]:=by
   match ps,h3 with
   | [a,b,c],_=>exact ⟨a,b,c,rfl⟩
  have HV:=zh (h3v pA pB pC rfl)
  have hlA:=hx1 pA (by simp)
  have hlB:=hx1 pB (by simp)
  have hlC:=hx1 pC (by simp)
  clear hx1 hv3 h3v HVL
  have e3:[pA,pB,pC].length=3:=rfl
  rw [e3] at HP4
  rw [e3]
  clear e3 h3
  obtain ⟨pb,po,pc2,hpv,_⟩:=HP4.out.shape (by decide)
  cases hpv
  have ca:=HP4.out.cellN (i:=0) (by simp)
  have cb:=HP4.out.cellN (i:=1) (by simp)
  have cc:=HP4.out.cellN (i:=2) (by simp)
  have HCA:=zh (show w4.cell? ⟨pb,po,none⟩=some (strV pA) from ca)
  have HCB:=zh (show w4.cell? ⟨pb,po+1,none⟩=some (strV pB) from cb)
  have HCC:=zh (show w4.cell? ⟨pb,po+2,none⟩=some (strV pC) from cc)
  have HPN:=zh (show pb ≠ nb from fun e=>by
   subst e
   obtain ⟨cur,fz,hc⟩:=HP4.out.block
   rw [HN4.out] at hc
   cases hc)
  have HRN:=zh (show rb ≠ nb from fun e=>by have:=HNB.out;have:=HRB.out;omega)
  clear ca cb cc
  go_wp2_with fail
  go_loopw [25] (fun q wr=>∃ (k:Nat) (n0 n1 n2:Int),k<=3/\q=.int .i64 k/\Mod (fun p=>p=nb) w4 wr/\wr.heap[nb]? = some (.cells #[.int .i64 n0,.int .i64 n1,.int .i64 n2] 186 (0,0)) ∧
   (0 < k->numB pA=true/\n0=(decV pA:Int))/\(1 < k->numB pB=true/\n1=(decV pB:Int))/\(2 < k->numB pC=true/\n2=(decV pC:Int))) (fun q _=>3 - (intOf q).toNat)
  case atStart=>exact ⟨0,0,0,0,by omega,rfl,Mod.refl _ _,HN4.out,fun h=>absurd h (by omega),fun h=>absurd h (by omega),fun h=>absurd h (by omega)⟩
  case round =>
   obtain ⟨k,n0,n1,n2,hk,rfl,hmod,hn,hk0,hk1,hk2⟩:=hrel
   have HM:=zh hmod
   have HNr:=zh hn
   have HRr:=zh (hmod.keep HR4.out (fun e=>HRN.out e))
   have HK0:=zh hk0
   have HK1:=zh hk1
   have HK2:=zh hk2
   clear hmod hn hk0 hk1 hk2
   have hk4:k=0\/k=1\/k=2\/k=3:=by omega
   clear hk
   rcases hk4 with rfl | rfl | rfl | rfl
   ·have hcell:wr.cell? ⟨pb,po,none⟩=some (strV pA):=HM.out.cell HCA.out (fun e=>HPN.out e)
    go_wp2_with fail
    with_reducible refine (HNUM.out pA hlA _).mono ?_
    rintro e w5 ⟨⟨n,rfl,hn⟩,hm5⟩
    rcases hb:numB pA with _ | _
    ·have HN:=zh (show verOf l=none by rw [HV.out,hb];simp)
     have hr5:=hm5.keep HRr.out (fun f=>f)
     have HR5:=zh hr5
     have HM5:=zh ((HM4.out.then HM.out (S:=No) (fun i hi e=>by have:=HNB.out;omega)).trans hm5)
     obtain ⟨⟨c0,c1,c2,c3⟩,f0,f1,f2,f3⟩:=cells4 hr5
     clear hm5 hn hr5
     go_wp2_with fail
     have hl:=load_ver (set4 HR5.out (.int .i64 0) (.int .i64 0) (.int .i64 0) (.slice none 0 0))
     have HM6:=zh (HM5.out.set4 (b:=rb) (fun h=>by have:=HRB.out;omega) (.int .i64 0) (.int .i64 0) (.int .i64 0) (.slice none 0 0))
     exact bodyPost_ret (v:=.tuple #[verV ⟨0,0,0,[]⟩ (.slice none 0 0),.int .i64 60]) (by simp [results,results106,asAddr,hl]) rfl (fin hR ⟨.inl ⟨HN.out,rfl⟩,HM6.out⟩)
    ·obtain rfl:=hn hb
     have hn5:=hm5.keep HNr.out (fun f=>f)
     have HN5:=zh hn5
     have HM5:=zh (HM.out.trans hm5.no)
     have d0:=cell_ofA (i:=0) hn5 rfl
     have e0:=frozen_of 0 hn5
     clear hm5 hn hn5
     go_wp2_with fail
     exact ⟨⟨0+1,(decV pA:Int),n1,n2,by omega,rfl,HM5.out.setCell (fun _=>rfl) _,heap_setCell HN5.out _,fun _=>⟨hb,rfl⟩,fun h=>absurd h (by omega),fun h=>absurd h (by omega)⟩,by show 3 - ((0:Int)+1).toNat < 3 - (0:Int).toNat;decide⟩
   ·have hcell:wr.cell? ⟨pb,po+1,none⟩=some (strV pB):=HM.out.cell HCB.out (fun e=>HPN.out e)
    go_wp2_with fail
    with_reducible refine (HNUM.out pB hlB _).mono ?_
    rintro e w5 ⟨⟨n,rfl,hn⟩,hm5⟩
    rcases hb:numB pB with _ | _
    ·have HN:=zh (show verOf l=none by rw [HV.out,hb];simp)
     have hr5:=hm5.keep HRr.out (fun f=>f)
     have HR5:=zh hr5
     have HM5:=zh ((HM4.out.then HM.out (S:=No) (fun i hi e=>by have:=HNB.out;omega)).trans hm5)
     obtain ⟨⟨c0,c1,c2,c3⟩,f0,f1,f2,f3⟩:=cells4 hr5
     clear hm5 hn hr5
     go_wp2_with fail
     have hl:=load_ver (set4 HR5.out (.int .i64 0) (.int .i64 0) (.int .i64 0) (.slice none 0 0))
     have HM6:=zh (HM5.out.set4 (b:=rb) (fun h=>by have:=HRB.out;omega) (.int .i64 0) (.int .i64 0) (.int .i64 0) (.slice none 0 0))
     exact bodyPost_ret (v:=.tuple #[verV ⟨0,0,0,[]⟩ (.slice none 0 0),.int .i64 60]) (by simp [results,results106,asAddr,hl]) rfl (fin hR ⟨.inl ⟨HN.out,rfl⟩,HM6.out⟩)
    ·obtain rfl:=hn hb
     have hn5:=hm5.keep HNr.out (fun f=>f)
     have HN5:=zh hn5
     have HM5:=zh (HM.out.trans hm5.no)
     have d0:=cell_ofA (i:=1) hn5 rfl
     have e0:=frozen_of 1 hn5
     clear hm5 hn hn5
     go_wp2_with fail
     exact ⟨⟨1+1,n0,(decV pB:Int),n2,by omega,rfl,HM5.out.setCell (fun _=>rfl) _,heap_setCell HN5.out _,fun _=>HK0.out (by omega),fun _=>⟨hb,rfl⟩,fun h=>absurd h (by omega)⟩,by show 3 - ((1:Int)+1).toNat < 3 - (1:Int).toNat;decide⟩
   ·have hcell:wr.cell? ⟨pb,po+2,none⟩=some (strV pC):=HM.out.cell HCC.out (fun e=>HPN.out e)
    go_wp2_with fail
    with_reducible refine (HNUM.out pC hlC _).mono ?_
    rintro e w5 ⟨⟨n,rfl,hn⟩,hm5⟩
    rcases hb:numB pC with _ | _
    ·have HN:=zh (show verOf l=none by rw [HV.out,hb];simp)
     have hr5:=hm5.keep HRr.out (fun f=>f)
     have HR5:=zh hr5
     have HM5:=zh ((HM4.out.then HM.out (S:=No) (fun i hi e=>by have:=HNB.out;omega)).trans hm5)
     obtain ⟨⟨c0,c1,c2,c3⟩,f0,f1,f2,f3⟩:=cells4 hr5
     clear hm5 hn hr5
     go_wp2_with fail
     have hl:=load_ver (set4 HR5.out (.int .i64 0) (.int .i64 0) (.int .i64 0) (.slice none 0 0))
     have HM6:=zh (HM5.out.set4 (b:=rb) (fun h=>by have:=HRB.out;omega) (.int .i64 0) (.int .i64 0) (.int .i64 0) (.slice none 0 0))
     exact bodyPost_ret (v:=.tuple #[verV ⟨0,0,0,[]⟩ (.slice none 0 0),.int .i64 60]) (by simp [results,results106,asAddr,hl]) rfl (fin hR ⟨.inl ⟨HN.out,rfl⟩,HM6.out⟩)
    ·obtain rfl:=hn hb
     have hn5:=hm5.keep HNr.out (fun f=>f)
     have HN5:=zh hn5
     have HM5:=zh (HM.out.trans hm5.no)
     have d0:=cell_ofA (i:=2) hn5 rfl
     have e0:=frozen_of 2 hn5
     clear hm5 hn hn5
     go_wp2_with fail
     exact ⟨⟨2+1,n0,n1,(decV pC:Int),by omega,rfl,HM5.out.setCell (fun _=>rfl) _,heap_setCell HN5.out _,fun _=>HK0.out (by omega),fun _=>HK1.out (by omega),fun _=>⟨hb,rfl⟩⟩,by show 3 - ((2:Int)+1).toNat < 3 - (2:Int).toNat;decide⟩
   ·obtain ⟨hA,rfl⟩:=HK0.out (by omega)
    obtain ⟨hB,rfl⟩:=HK1.out (by omega)
    obtain ⟨hC,rfl⟩:=HK2.out (by omega)
    have HV2:=zh (show verOf l=if preOk l=true then some ⟨decV pA,decV pB,decV pC,preOf l⟩ else none by rw [HV.out,hA,hB,hC];rfl)
    have HMr:=zh (HM4.out.then HM.out (S:=No) (fun i hi e=>by have:=HNB.out;omega))
    have nf0:=cell_ofA (i:=0) HNr.out rfl
    have nf1:=cell_ofA (i:=1) HNr.out rfl
    have nf2:=cell_ofA (i:=2) HNr.out rfl
    clear HM HK0 HK1 HK2 HV hA hB hC
    generalize (decV pA:Int)=a at *
    generalize (decV pB:Int)=b at *
    generalize (decV pC:Int)=c at *
    go_upto_region 15 with fail
    obtain ⟨vb,hvb⟩:∃ g,g=wr.heap.size:=⟨_,rfl⟩
    rw [<- hvb]
    generalize hw6:World.alloc wr _=w6
    have HM6:=zh (show Mod No w w6 by rw [<- hw6];exact HMr.out.alloc _)
    have HR6:=zh (show w6.heap[rb]? = some (.cells #[.int .i64 0,.int .i64 0,.int .i64 0,.slice none 0 0] 40 (0,0)) by rw [<- hw6];exact heap_alloc_old _ HRr.out)
    have HV6:=zh (show w6.heap[vb]? = some (.cells #[.int .i64 a,.int .i64 b,.int .i64 c,.slice none 0 0] 40 (0,0)) by rw [<- hw6,hvb];exact heap_alloc_new wr _)
    have HVB:=zh (show rb < vb by rw [hvb];exact lt_of_heap HRr.out)
    clear hw6 hvb nf0 nf1 nf2 HMr HRr HNr HM4 HR4 HN4 HP4 HCA HCB HCC HPN HRN
    by_cases h45:45 ∈ l
    ·rw [decide_eq_true h45]
     have HPO:=zh (show preOf l=splitC 46 (tailC 45 l) from if_pos h45)
     have HPK:=zh (show preOk l=(decide ((preOf l).length<=5) && (preOf l).all markB) by unfold preOk;rw [decide_eq_false (fun h=>h h45),Bool.false_or])
     have hps:∀ x ∈ preOf l,x.length<=l.length:=fun x hx=>by
      rw [HPO.out] at hx
      have:=HSM.out _ x hx
      omega
     have hpl:(preOf l).length<=1000001:=by
      rw [HPO.out]
      have:=HSL.out (tailC 45 l)
      omega
     go_wp2_with fail
     with_reducible refine (HSP.out _ ht _ (HG.out.stay HM6.out (fun f=>f))).mono ?_
     rintro e w7 ⟨pv,rfl,hown,hm7⟩
     rw [<- HPO.out] at hown
     have HP7:=zh (Sl.of_own (X:=Old w) hown (fun k hk h=>by have h2:k < w.heap.size:=h;have:=HM6.out.size;omega))
     obtain ⟨qa,qc,rfl⟩:=HP7.out.len
     have HM7:=zh (HM6.out.trans hm7)
     have HR7:=zh (hm7.keep HR6.out (fun f=>f))
     have HV7:=zh (hm7.keep HV6.out (fun f=>f))
     clear hm7 hown HPO
     generalize preOf l=pr at *
     obtain ⟨⟨c0,c1,c2,c3⟩,f0,f1,f2,f3⟩:=cells4 HV7.out
     go_upto_region 18 with fail
     have HV8:=zh (show (w7.setCell ⟨vb,3,none⟩ (.slice qa pr.length qc)).heap[vb]? = some (.cells #[.int .i64 a,.int .i64 b,.int .i64 c,.slice qa pr.length qc] 40 (0,0)) by rw [heap_setCell HV7.out];rfl)
     have HM8:=zh (show Mod No w (w7.setCell ⟨vb,3,none⟩ (.slice qa pr.length qc)) from HM7.out.setCell (fun h=>by have:=HRB.out;have:=HVB.out;dsimp only at h;omega) _)
     have HR8:=zh (show (w7.setCell ⟨vb,3,none⟩ (.slice qa pr.length qc)).heap[rb]? = some (.cells #[.int .i64 0,.int .i64 0,.int .i64 0,.slice none 0 0] 40 (0,0)) by rw [heap_setCell_ne _ (by have:=HVB.out;dsimp only;omega)];exact HR7.out)
     have HP8:=zh (show Sl (w7.setCell ⟨vb,3,none⟩ (.slice qa pr.length qc)) (Old w) 9 (.slice qa pr.length qc) pr.length (strs pr) from HP7.out.keep (S:=fun p=>p=vb) (Mod.cell1 w7 vb 3 _) (fun k cur fz hk _ hc=>by subst hk;rw [HV7.out] at hc;cases hc))
     generalize w7.setCell ⟨vb,3,none⟩ (.slice qa pr.length qc)=w8 at *
     clear c0 c1 c2 c3 f0 f1 f2 f3 HR7 HV7 HM7 HP7 HV6 HR6 HM6
     obtain ⟨⟨c0,c1,c2,c3⟩,f0,f1,f2,f3⟩:=cells4 HV8.out
     by_cases h5:(5:Int) < (pr.length:Int)
     ·have HN:=zh (show verOf l=none by rw [HV2.out,HPK.out,decide_eq_false (by omega:¬ pr.length<=5)];rfl)
      obtain ⟨⟨d0,d1,d2,d3⟩,g0,g1,g2,g3⟩:=cells4 HR8.out
      go_wp2_with fail
      have hl:=load_ver (set4 HR8.out (.int .i64 0) (.int .i64 0) (.int .i64 0) (.slice none 0 0))
      have HM9:=zh (HM8.out.set4 (b:=rb) (fun h=>by have:=HRB.out;omega) (.int .i64 0) (.int .i64 0) (.int .i64 0) (.slice none 0 0))
      exact bodyPost_ret (v:=.tuple #[verV ⟨0,0,0,[]⟩ (.slice none 0 0),.int .i64 60]) (by simp [results,results106,asAddr,hl]) rfl (fin hR ⟨.inl ⟨HN.out,rfl⟩,HM9.out⟩)
     ·have hcf:=HCF.out pr hps (by omega) _ _ (HP8.out.shrink (fun _ _ f=>f.elim))
      have HCF2:=zh hcf
      clear hcf
      go_wp2_with fail
      with_reducible refine HCF2.out.mono ?_
      rintro e w9 ⟨rfl,hm9⟩
      have HM9:=zh (HM8.out.trans hm9)
      have HR9:=zh (hm9.keep HR8.out (fun f=>f))
      have HV9:=zh (hm9.keep HV8.out (fun f=>f))
      have HP9:=zh (HP8.out.kn hm9)
      have HAN:=zh (show (pr.any fun x=>!markB x) = !(pr.all markB) by rw [List.not_all_eq_any_not])
      clear hm9 c0 c1 c2 c3 f0 f1 f2 f3 HCF2
      obtain ⟨⟨d0,d1,d2,d3⟩,g0,g1,g2,g3⟩:=cells4 HR9.out
      rcases hb:(pr.any fun x=>!markB x) with _ | _
      ·have HN:=zh (show verOf l=some ⟨a,b,c,pr⟩ by
        have hq:pr.all markB=true:=by rw [hb] at HAN;simpa using HAN.out.symm
        rw [HV2.out,HPK.out,decide_eq_true (by omega:pr.length<=5),hq];rfl)
       have hl0:=load_ver HV9.out
       obtain ⟨⟨c0,c1,c2,c3⟩,-⟩:=cells4 HV9.out
       go_wp2_with fail
       have hl:=load_ver (set4 HR9.out (.int .i64 a) (.int .i64 b) (.int .i64 c) (.slice qa pr.length qc))
       have HM10:=zh (HM9.out.set4 (b:=rb) (fun h=>by have:=HRB.out;omega) (.int .i64 a) (.int .i64 b) (.int .i64 c) (.slice qa pr.length qc))
       have HP10:=zh (HP9.out.keep (Mod.set4 (S:=fun p=>p=rb) (b:=rb) (Mod.refl _ w9) (fun _=>rfl) (.int .i64 a) (.int .i64 b) (.int .i64 c) (.slice qa pr.length qc)) (fun k cur fz hk _ hc=>by subst hk;rw [HR9.out] at hc;cases hc))
       exact bodyPost_ret (v:=.tuple #[verV ⟨a,b,c,pr⟩ (.slice qa pr.length qc),.int .i64 0]) (by simp [results,results106,asAddr,hl]) rfl (fin hR ⟨.inr ⟨_,_,HN.out,rfl,HP10.out⟩,HM10.out⟩)
      ·have HN:=zh (show verOf l=none by
        have hq:pr.all markB=false:=by rw [hb] at HAN;simpa using HAN.out.symm
        rw [HV2.out,HPK.out,hq,Bool.and_false];rfl)
       go_wp2_with fail
       have hl:=load_ver (set4 HR9.out (.int .i64 0) (.int .i64 0) (.int .i64 0) (.slice none 0 0))
       have HM10:=zh (HM9.out.set4 (b:=rb) (fun h=>by have:=HRB.out;omega) (.int .i64 0) (.int .i64 0) (.int .i64 0) (.slice none 0 0))
       exact bodyPost_ret (v:=.tuple #[verV ⟨0,0,0,[]⟩ (.slice none 0 0),.int .i64 60]) (by simp [results,results106,asAddr,hl]) rfl (fin hR ⟨.inl ⟨HN.out,rfl⟩,HM10.out⟩)
    ·rw [decide_eq_false h45]
     have HN:=zh (show verOf l=some ⟨a,b,c,[]⟩ by
      rw [HV2.out,if_pos (by unfold preOk;rw [decide_eq_true h45];rfl),show preOf l=[] from if_neg h45])
     obtain ⟨⟨d0,d1,d2,d3⟩,g0,g1,g2,g3⟩:=cells4 HR6.out
     obtain ⟨⟨c0,c1,c2,c3⟩,-⟩:=cells4 HV6.out
     go_wp2_with fail
     have hl:=load_ver (set4 HR6.out (.int .i64 a) (.int .i64 b) (.int .i64 c) (.slice none 0 0))
     have HM9:=zh (HM6.out.set4 (b:=rb) (fun h=>by have:=HRB.out;omega) (.int .i64 a) (.int .i64 b) (.int .i64 c) (.slice none 0 0))
     exact bodyPost_ret (v:=.tuple #[verV ⟨a,b,c,[]⟩ (.slice none 0 0),.int .i64 0]) (by simp [results,results106,asAddr,hl]) rfl (fin hR ⟨.inr ⟨_,_,HN.out,rfl,.inl ⟨rfl,rfl,rfl⟩⟩,HM9.out⟩)
 ·have h3i:((ps.length:Int) != 3)=true:=by simp;omega
  have HN:=zh (hv3 h3)
  clear hx1 hv3 h3v
  obtain ⟨⟨c0,c1,c2,c3⟩,f0,f1,f2,f3⟩:=cells4 HR4.out
  go_wp2_with fail
  have hl:=load_ver (set4 HR4.out (.int .i64 0) (.int .i64 0) (.int .i64 0) (.slice none 0 0))
  have HM5:=zh (HM4.out.set4 (b:=rb) (fun h=>by have:=HRB.out;omega) (.int .i64 0) (.int .i64 0) (.int .i64 0) (.slice none 0 0))
  exact bodyPost_ret (v:=.tuple #[verV ⟨0,0,0,[]⟩ (.slice none 0 0),.int .i64 60]) (by simp [results,results106,asAddr,hl]) rfl (fin hR ⟨.inl ⟨HN.out,rfl⟩,HM5.out⟩)
theorem blank_any (x:Nat) (w:World):Calls prog 149 #[.int .i32 (x:Int)] w fun e w'=>e=.returned (.bool (x == 32))/\Mod No w w':=by
 refine calls_hide fun R hR=>?_
 have h0:(0:Int)<=(x:Int):=Int.natCast_nonneg _
 go_enter func149,ntmps149
 by_cases hx:x=32
 ·subst hx
  go_wp2_with fail
  exact fin hR ⟨rfl,Mod.refl _ _⟩
 ·have hx2:((x:Int) == 32)=false:=by simp;omega
  have hx3:(x == 32)=false:=by simpa using hx
  go_wp2_with fail
  exact fin hR ⟨(by rw [hx3];try rfl),Mod.refl _ _⟩
set_option maxRecDepth 100000 in
theorem fields_any (l:List UInt8) (hl:l.length<=1000000) (w:World):Calls prog 148 #[strV l,.func (.func 149) #[] #[]] w fun e w' =>
  ∃ v,e=.returned v/\w'.ownsRow w.heap.size 9 1 v (wordsL l).length (strs (wordsL l))/\Mod No w w':=by
 have hp:PredGrows prog 149 #[] (fun r=>r == 32) w:=fun W x _ _=>(blank_any x W).mono fun e w' ⟨he,hm⟩=>⟨he,hm.below⟩
 have hw:=fields_words l
 refine (Tryz.strings_FieldsFunc_grows 149 #[] (fun _ _=>rfl) (fun r=>r == 32) ⟨l.toArray⟩ w (by rw [str_len3];omega) hp).mono fun e w' ⟨A,he,hA,ho,hb⟩=>?_
 have e1:(Lib.goFieldsP (fun r=>r == 32) ⟨l.toArray⟩).map Value.string=strs (wordsL l):=by
  rw [hw,List.map_map];rfl
 have e2:(Lib.goFieldsP (fun r=>r == 32) ⟨l.toArray⟩).length=(wordsL l).length:=by rw [hw,List.length_map]
 rw [e1,e2] at ho
 exact ⟨_,he.trans (by rw [e2]),ho,Mod.of_below hb⟩
theorem trim_any (l:List UInt8) (hl:l.length<=1000000) (w:World):Calls prog 146 #[strV l,.string ⟨#[32]⟩] w fun e w'=>e=.returned (strV (Lib.trimB l 32))/\Mod No w w' :=
 (Tryz.strings_Trim_one ⟨l.toArray⟩ 32 (by decide) w (by rw [str_len3];omega)).mono fun e w' ⟨he,hw⟩=>⟨he,by
  rcases hw with rfl | rfl
  ·exact Mod.refl _ _
  ·exact (Mod.refl No w).drew⟩
end Go.Proofs.YtgiigemfbebcgaaGreatDoor
