/-
  Layers 0 to 14: helps of the laws of indexes. No statement is proved here; no condition.
-/
import Derived.Test.YtgiigemfbebcgaaGreatDoorU14
import Derived.Test.YtgiigemfbebcgaaGreatDoorU16
import Derived.Test.YtgiigemfbebcgaaGreatDoorU08
import Derived.Lib.Builder
import Derived.Lib.AppendStr
namespace Go.Proofs.YtgiigemfbebcgaaGreatDoor
open _root_.Go.Proofs.Tryz
open Go.RowKit
abbrev IsBld (B b:Nat) (l:List UInt8) (w:World):Prop:=Lib.IsBuilder 115 5 B b (bv l) w
theorem bld_at_keep {S:Nat->Prop} {w w':World} {B b:Nat} {p:Value} {bs:List Value} (h:Lib.BuilderAt 115 5 B b p bs w) (hm:Mod S w w') (hb:¬ S b) (hu:∀ k c fz,S k->w.heap[k]? ≠ some (.cells c 5 fz)) :
  Lib.BuilderAt 115 5 B b p bs w':=by
 obtain ⟨h1,v,h2,h3,h4⟩:=h
 refine ⟨h1,v,hm.keep h2 hb,own_keepM h3 hm (fun k hk hs=>?_),h4⟩
 obtain ⟨c,hc⟩:=own_heapM h3 hk
 exact hu k _ _ hs hc
theorem bld_keep {S:Nat->Prop} {w w':World} {B b:Nat} {l:List UInt8} (h:IsBld B b l w) (hm:Mod S w w') (hb:¬ S b) (hu:∀ k c fz,S k->w.heap[k]? ≠ some (.cells c 5 fz)):IsBld B b l w' :=
 h.elim (fun h=>.inl (bld_at_keep h hm hb hu)) (fun h=>.inr (bld_at_keep h hm hb hu))
theorem builder_size:(prog.info? 115).map (·.size)=some 2:=by kernel_rfl
set_option maxRecDepth 100000 in
theorem cc_fresh (b:Nat) (w:World) (h0:w.cell? ⟨b,0,none⟩=some (.pointer none)) (hsh:w.shape? b=some (115,2)) (hfz:w.frozen? ⟨b,0,none⟩=false) :
  Calls prog 96 #[.pointer (some ⟨b,0,none⟩)] w fun e w'=>e=.returned (.tuple #[])/\w'=w.setCell ⟨b,0,none⟩ (.pointer (some ⟨b,0,none⟩)):=by
 obtain ⟨j,hj,hjs⟩:=Option.map_eq_some_iff.1 builder_size
 go_enter func96,ntmps96
 go_wp2
 rw [Lib.run_to_unsafe w ⟨b,0,none⟩ underlying113 underlying179 hj (by rw [hjs];decide) hsh (Nat.zero_lt_succ 1)]
 simp only [Result.andThen]
 rw [Oper.upon_value]
 go_wp2
 rw [run_callFunc_extern func131 (by kernel_rfl) (by kernel_rfl) (by kernel_rfl) (e:=Extern.AbiNoEscape.same) (by kernel_rfl)]
 rw [Lib.run_noEscape]
 simp only [Result.andThen]
 rw [Oper.upon_value]
 go_wp2
 rw [Lib.run_from_unsafe w ⟨b,0,none⟩ underlying179 underlying113 hj hsh (by kernel_rfl)]
 simp only [Result.andThen]
 rw [Oper.upon_value]
 go_wp2
 go_end0
 exact ⟨rfl,rfl⟩
set_option maxRecDepth 100000 in
theorem cc_used (b:Nat) (w:World) (h0:w.cell? ⟨b,0,none⟩=some (.pointer (some ⟨b,0,none⟩))) :
  Calls prog 96 #[.pointer (some ⟨b,0,none⟩)] w fun e w'=>e=.returned (.tuple #[])/\w'=w:=by
 obtain ⟨j,hj,hjs⟩:=Option.map_eq_some_iff.1 builder_size
 have hne:∀ w:World,(binOp .neq 113 (.pointer (some ⟨b,0,none⟩)) (.pointer (some ⟨b,0,none⟩))).run prog w=.ok (.bool false) w:=fun w=>Lib.run_neq_ptr_same w _ underlying113 hj
 go_enter func96,ntmps96
 go_wp2
 go_end0
 exact ⟨rfl,rfl⟩
theorem cc_any (B b:Nat) (l:List UInt8) (w:World) (h:IsBld B b l w) :
  Calls prog 96 #[.pointer (some ⟨b,0,none⟩)] w fun e w'=>e=.returned (.tuple #[])/\Lib.BuilderAt 115 5 B b (.pointer (some ⟨b,0,none⟩)) (bv l) w'/\Mod (fun q=>q=b) w w':=by
 rcases h with h | h
 ·refine (cc_fresh b w h.cell0 h.shape h.frozen0).mono ?_
  rintro e w' ⟨rfl,rfl⟩
  exact ⟨rfl,h.used _,Mod.cell1 _ _ _ _⟩
 ·refine (cc_used b w h.cell0).mono ?_
  rintro e w' ⟨rfl,rfl⟩
  exact ⟨rfl,h,Mod.refl _ _⟩
def Wrt (B b:Nat) (w:World):Nat->Prop:=fun q=>q=b\/(B<=q/\∃ c fz,w.heap[q]? = some (.cells c 5 fz))
set_option maxRecDepth 100000 in
set_option maxHeartbeats 4000000 in
theorem ws_any (B b:Nat) (l s:List UInt8) (hl:l.length<=1000000) (hs:s.length<=1000000) (w:World) (h:IsBld B b l w) (hB:B<=w.heap.size) :
  Calls prog 70 #[.pointer (some ⟨b,0,none⟩),strV s] w fun e w'=>(∃ v,e=.returned v)/\IsBld B b (l++s) w'/\Mod (Wrt B b w) w w':=by
 refine calls_hide fun R hR=>?_
 have HCC:=zh (cc_any B b l w h)
 have HSB:=zh (strcells_bv s)
 have HZ:=zh (str_len3 s)
 obtain ⟨i0,hi0,hz0,hz1,hz2⟩:=info_parts info_byte
 have HI:=zh (And.intro hi0 (And.intro hz0 (And.intro hz1 hz2)))
 have HBV:=zh (show (bv l).length=l.length by simp [bv])
 unfold strV
 generalize (⟨s.toArray⟩:ByteArray)=Z at *
 clear h hi0 hz0 hz1 hz2
 go_enter func70,ntmps70
 go_wp2_with fail
 with_reducible refine HCC.out.mono ?_
 rintro e w1 ⟨rfl,⟨hBb,v,hb,hown,hne⟩,hm⟩
 rw [HBV.out] at hown
 have HO:=zh hown
 have HM:=zh hm
 have hc:=cell_ofA hb (i:=1) rfl
 have HB1:=zh hb
 have HNE:=zh hne
 obtain ⟨hi0,hz0,hz1,hz2⟩:=HI.out
 clear hb hown hm HCC hne
 go_wp2_with (at_builtin;refine Lib.wpList_append_own_string _ rfl _ _ 29 9 rfl B 5 i0 underlying29 underlying9 hi0 hz0 hz1 hz2 v _ _ rfl HO.out Z rfl (by have:=HZ.out;unfold maxLen;omega) (by have:=HZ.out;omega) (Nat.le_trans hB HM.out.size) ?_;intro v2 w2 hown2 hg2 _;obtain ⟨sa,sc,hsv⟩:=own_len hown2;subst hsv;have HO2:=zh hown2;have HG2:=zh hg2;clear hown2 hg2;have hb2:=(HG2.out.block b (lt_of_heap HB1.out) (fun e=>HNE.out e.symm)).trans HB1.out;have hfz:=frozen_of 1 hb2;have hc2:=cell_ofA hb2 (i:=1) rfl)
 obtain ⟨v2,hv2⟩:∃ v2,v2=Value.slice sa (l.length+Z.size) sc:=⟨_,rfl⟩
 rw [<- hv2] at HO2 ⊢
 clear hv2
 have HB2:=zh hb2
 have HNB:=zh (show ∀ k,v2.ownBlock=some k->¬ k=b from fun k hk e=>by
  obtain ⟨c,hc⟩:=own_heapM HO2.out hk
  rw [e,HB2.out] at hc
  have h7:=Obj.cells.inj (Option.some.inj hc)
  exact absurd h7.2.1 (by decide))
 have HM3:=zh (show Mod (Wrt B b w) w (w2.setCell ⟨b,1,none⟩ v2) from by
  refine Mod.then (T:=fun q=>q=b) (Mod.then (T:=fun q=>v.ownBlock=some q) (HM.out.weaken (fun k _ e=>.inl e)) (Mod.of_grown HG2.out (fun k hk _=>hk)) (fun i hi e=>?_)) (Mod.cell1 w2 b 1 v2) (fun i _ e=>.inl e)
  obtain ⟨c,hc⟩:=own_heapM HO.out e
  have hnb:¬ i=b:=fun e2=>HNE.out (by rw [<- e2];exact e)
  rw [HM.out.block i hi hnb] at hc
  exact .inr ⟨own_base HO.out e,c,_,hc⟩)
 have HR2:=zh (show IsBld B b (l++s) (w2.setCell ⟨b,1,none⟩ v2) from by
  have hlen:(bv (l++s)).length=l.length+Z.size:=by have:=HZ.out;simp [bv];omega
  have e2:bv l++Lib.strCells Z=bv (l++s):=by rw [HSB.out];simp [bv]
  refine .inr ⟨hBb,v2,heap_setCell HB2.out v2,own_keepM ?_ (Mod.cell1 w2 b 1 v2) HNB.out,fun e=>HNB.out b e rfl⟩
  rw [hlen,<- e2]
  exact HO2.out)
 exact fin hR ⟨⟨_,rfl⟩,HR2.out,HM3.out⟩
set_option maxRecDepth 100000 in
set_option maxHeartbeats 4000000 in
theorem number_any (l:List UInt8) (hl:l.length<=1000000) (w:World):Calls prog 140 #[strV l] w fun e w'=>(∃ n:Int,e=.returned (.tuple #[.int .i64 n,.bool (numB l)])/\(numB l=true->n=(decV l:Int)))/\Mod No w w':=by
 refine calls_hide fun R hR=>?_
 have HZ:=zh (str_len3 l)
 have hT:=str_list l
 have HDG:=zh (digits_any l hl)
 have HPL:=zh (plain_any l hl)
 have HAT:=zh (show digitsB l=true->l.length<=9->∀ W,Calls prog 172 #[strV l] W fun e w'=>e=.returned (.tuple #[.int .i64 (decV l:Int),.nilIface])/\Mod No W w' from fun h h9 W =>
  (Tryz.strconv_Atoi ⟨l.toArray⟩ (decV l) (by rw [HZ.out];omega) (atoi_dig h) W).mono fun e w' ⟨he,t,ht⟩=>⟨he,by
   rw [ht]
   exact ⟨rfl,rfl,rfl,by rw [Lib.bytesWorld_size];omega,fun k hk _=>Lib.bytesWorld_at_old W _ _ k hk⟩⟩)
 unfold strV at *
 generalize (⟨l.toArray⟩:ByteArray)=Z at *
 have hZs:(Z.size:Int)=(l.length:Int):=by rw [HZ.out]
 have HNB:=zh (show numB l=(digitsB l && decide (l.length<=9) && plainB l) from rfl)
 have HDN:=zh (nonempty_of_digits (l:=l))
 go_enter func140,ntmps140
 go_wp2_with fail
 with_reducible refine (HDG.out _).mono ?_
 rintro e w ⟨rfl,rfl⟩
 rcases hd:digitsB l with _ | _
 ·go_wp2_with fail
  have hb:numB l=false:=by rw [HNB.out,hd];rfl
  refine fin hR ⟨⟨0,by rw [hb];rfl,fun h=>by rw [hb] at h;cases h⟩,Mod.refl _ _⟩
 by_cases h9:(9:Int) < (l.length:Int)
 ·go_wp2_with fail
  have hb:numB l=false:=by rw [HNB.out,decide_eq_false (by omega:¬ l.length<=9),Bool.and_false];rfl
  refine fin hR ⟨⟨0,by rw [hb];rfl,fun h=>by rw [hb] at h;cases h⟩,Mod.refl _ _⟩
 go_wp2_with fail
 with_reducible refine (HPL.out (HDN.out hd) _).mono ?_
 rintro e w ⟨rfl,rfl⟩
 rcases hp:plainB l with _ | _
 ·go_wp2_with fail
  have hb:numB l=false:=by rw [HNB.out,hp,Bool.and_false]
  refine fin hR ⟨⟨0,by rw [hb];rfl,fun h=>by rw [hb] at h;cases h⟩,Mod.refl _ _⟩
 ·go_wp2_with fail
  with_reducible refine (HAT.out hd (by omega) _).mono ?_
  rintro e w1 ⟨rfl,hm⟩
  have HM:=zh hm
  clear hm
  go_wp2_with fail
  have hb:numB l=true:=by rw [HNB.out,hd,hp,decide_eq_true (by omega:l.length<=9)];rfl
  refine fin hR ⟨⟨(decV l:Int),by rw [hb];rfl,fun _=>rfl⟩,HM.out⟩
end Go.Proofs.YtgiigemfbebcgaaGreatDoor
