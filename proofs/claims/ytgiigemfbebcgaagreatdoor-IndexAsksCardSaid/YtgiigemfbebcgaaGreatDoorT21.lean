/-
  Layers 0 to 14: helps of the laws of indexes. No statement is proved here; no condition.
-/
import Derived.Test.YtgiigemfbebcgaaGreatDoorT20
import Derived.Test.YtgiigemfbebcgaaGreatDoorT06
import Derived.Test.YtgiigemfbebcgaaGreatDoorT16
import Derived.Test.YtgiigemfbebcgaaGreatDoorT17
import Derived.Test.YtgiigemfbebcgaaGreatDoorT03
namespace Go.Proofs.YtgiigemfbebcgaaGreatDoor
open _root_.Go.Proofs.Tryz
open Go.RowKit
def hexDs:List UInt8:=[48,49,50,51,52,53,54,55,56,57,97,98,99,100,101,102]
def hexI (c:UInt8):Int:=match hexD c with
 | some x=>(x:Int)
 | none=>-1
theorem hexI_all:∀ n:Fin 256,Lib.indexByte hexDs (UInt8.ofNat n.1)=hexI (UInt8.ofNat n.1):=by decide +kernel
theorem hexI_of (c:UInt8):Lib.indexByte hexDs c=hexI c:=by
 have:=hexI_all ⟨c.toNat,UInt8.toNat_lt c⟩
 rwa [UInt8.ofNat_toNat] at this
theorem indexhex_any (c:UInt8) (w:World):Calls prog 144 #[.string ⟨#[48,49,50,51,52,53,54,55,56,57,97,98,99,100,101,102]⟩,.int .u8 (c.toNat:Int)] w fun e w'=>e=.returned (.int .i64 (hexI c))/\w'=w :=
 (Tryz.strings_IndexByte ⟨#[48,49,50,51,52,53,54,55,56,57,97,98,99,100,101,102]⟩ (c.toNat:Int) w).mono fun e w' ⟨he,hw⟩=>⟨he.trans (by
  rw [<- hexI_of c]
  rw [show ((c.toNat:Int)).toNat.toUInt8=c by rw [Int.toNat_natCast];simp]
  rfl),hw⟩
def AnyKey (cs:Array Value):Prop:=cs.size=32/\∀ j,j < 32->∃ x:Int,cs[j]? = some (.int .u8 x)
theorem AnyKey.set {cs:Array Value} (h:AnyKey cs) (j:Nat) (x:Int):AnyKey (cs.setIfInBounds j (.int .u8 x)):=by
 refine ⟨by rw [Array.size_setIfInBounds];exact h.1,fun i hi=>?_⟩
 rw [Array.getElem?_setIfInBounds]
 by_cases hij:j=i
 ·subst hij
  rw [if_pos rfl,if_pos (by rw [h.1];exact hi)]
  exact ⟨x,rfl⟩
 ·rw [if_neg hij]
  exact h.2 i hi
theorem zero_key:AnyKey (bv (List.replicate 32 0)).toArray:=by
 refine ⟨by simp,fun j hj=>⟨0,?_⟩⟩
 rw [List.getElem?_toArray,bv_get _ _ (by simpa using hj),List.getElem_replicate]
 rfl
theorem sum_none {l:List UInt8} (hs:sumL l=none):l.length ≠ 64\/(l.length=64/\∃ m,∃ hm:m < l.length,hexD l[m]=none/\∀ i (hi:i < l.length),i < m->∃ x,hexD l[i]=some x/\x < 16):=by
 by_cases h64:l.length=64
 ·refine .inr ⟨h64,?_⟩
  cases hf:l.findIdx? (fun c=>(hexD c).isNone) with
  | none =>
   obtain ⟨S,hS⟩:=unhex_some (l:=l) (by omega) (fun i hi e=>by
    have:=List.findIdx?_eq_none_iff.1 hf _ (List.getElem_mem hi)
    rw [e] at this;cases this)
   unfold sumL at hs
   rw [if_pos h64,hS] at hs
   cases hs
  | some m =>
   obtain ⟨hm,h1,h2⟩:=List.findIdx?_eq_some_iff_getElem.1 hf
   refine ⟨m,hm,by simpa using h1,fun i hi hlt=>?_⟩
   cases hx:hexD l[i] with
   | none=>exact absurd (by rw [hx];rfl) (h2 i hlt)
   | some x=>exact ⟨x,rfl,(digit_hexD hx).1⟩
 ·exact .inl h64
set_option maxRecDepth 100000 in
set_option maxHeartbeats 4000000 in
theorem parse_bad (l:List UInt8) (hs:sumL l=none) (w:World) :
  Calls prog 107 #[strV l] w fun e w'=>e=.returned (.tuple #[keyV (List.replicate 32 0),.bool false])/\Mod No w w':=by
 refine calls_hide fun R hR=>?_
 have HX:=zh (run_at l)
 have HZ:=zh (str_len3 l)
 have HC:=zh (sum_none hs)
 unfold strV at *
 generalize (⟨l.toArray⟩:ByteArray)=Z at *
 have hZs:(Z.size:Int)=(l.length:Int):=by rw [HZ.out]
 go_enter func107,ntmps107
 go_upto_region 1 with fail
 obtain ⟨rb,hrb⟩:∃ g,g=w.heap.size:=⟨_,rfl⟩
 rw [<- hrb]
 generalize hw1:World.alloc w _=w1
 have HM1:=zh (show Mod No w w1 by rw [<- hw1];exact (Mod.refl No w).alloc _)
 have HR1:=zh (show w1.heap[rb]? = some (.cells (bv (List.replicate 32 0)).toArray 43 (0,0)) by rw [<- hw1,hrb];exact heap_alloc_new w _)
 have HRB:=zh hrb
 clear hw1 hrb
 go_upto_region 2 with fail
 obtain ⟨kb,hkb⟩:∃ g,g=w1.heap.size:=⟨_,rfl⟩
 rw [<- hkb]
 generalize hw2:World.alloc w1 _=w2
 have HM2:=zh (show Mod No w w2 by rw [<- hw2];exact HM1.out.alloc _)
 have HR2:=zh (show w2.heap[rb]? = some (.cells (bv (List.replicate 32 0)).toArray 43 (0,0)) by rw [<- hw2];exact heap_alloc_old _ HR1.out)
 have HK2:=zh (show w2.heap[kb]? = some (.cells (bv (List.replicate 32 0)).toArray 43 (0,0)) by rw [<- hw2,hkb];exact heap_alloc_new w1 _)
 have HKB:=zh (show rb < kb by rw [hkb];exact lt_of_heap HR1.out)
 clear hw2 hkb HM1 HR1
 obtain ⟨zs,hzs⟩:∃ zs,zs=List.replicate 32 (0:UInt8):=⟨_,rfl⟩
 have hzl:zs.length=32:=by rw [hzs];rfl
 have HZS:=zh hzs
 have HZL:=zh hzl
 rw [<- hzs] at hR
 clear hzs hzl
 rcases HC.out with h64 | ⟨h64,m,hm,hbad,hgood⟩
 ·have hn:((l.length:Int) != 64)=true:=by simp;omega
  go_wp2_with (refine wpList_store_row rfl 43 _ _ rfl rb (bv zs).toArray rfl (by rw [HZS.out];rfl) 43 _ HR2.out (key_size HZL.out) (by simp [HZL.out]) (by simp [bv,Value.oneCell']) ?_)
  have hr4:=setRow_heap _ _ _ (bv zs).toArray _ _ HR2.out
  have hmm4:=zh (HM2.out.setRow (fun h=>by have:=HRB.out;omega) (bv zs).toArray:Mod No w (w2.setRow rb (bv zs).toArray))
  have hl:=run_loadVar_row (P:=prog) (w2.setRow rb (bv zs).toArray) rb 43 43 (bv zs).toArray (0,0) _ hr4 underlying43 rfl (key_size HZL.out)
  exact bodyPost_ret (v:=.tuple #[keyV zs,.bool false]) (by simp [results,results107,asAddr,hl]) rfl (fin hR ⟨rfl,hmm4.out⟩)
 ·have hl64:(l.length:Int)=64:=by omega
  have hz64:(Z.size:Int)=64:=by omega
  have hm64:m < 64:=by omega
  have HBAD:=zh (show hexI l[m] = -1 by unfold hexI;rw [hbad])
  have HGOOD:=zh hgood
  have HKK:=zh (show AnyKey (bv (List.replicate 32 0)).toArray from zero_key)
  clear hbad hgood hZs HC
  go_wp2_with fail
  go_loopw [13] (fun q wr=>∃ (i:Nat) (cs:Array Value),i<=m/\q=.int .i64 (i:Int)/\Mod No w wr/\wr.heap[rb]? = some (.cells (bv (List.replicate 32 0)).toArray 43 (0,0))/\wr.heap[kb]? = some (.cells cs 43 (0,0))/\AnyKey cs) (fun q _=>64 - (intOf q).toNat)
  case atStart=>exact ⟨0,_,by omega,rfl,HM2.out,HR2.out,HK2.out,HKK.out⟩
  case round =>
   obtain ⟨i,cs,him,rfl,hmod,hr,hk,hcs⟩:=hrel
   have HM3:=zh hmod
   have HR3:=zh hr
   have HK3:=zh hk
   have HCS:=zh hcs
   have hi0:(0:Int)<=(i:Int):=Int.natCast_nonneg _
   have hi64:(i:Int) < 64:=by omega
   have hidx:=HX.out i (by omega)
   have HIH:=zh (indexhex_any l[i])
   clear hmod hr hk hcs
   by_cases hie:i=m
   ·subst hie
    rw [HBAD.out] at HIH
    generalize (l[i].toNat:Int)=ch at *
    clear HK3 HCS HK2 HR2
    go_wp2_with (first | (refine wpList_store_row rfl 43 _ _ rfl rb (bv zs).toArray rfl (by rw [HZS.out];rfl) 43 _ HR3.out (key_size HZL.out) (by simp [HZL.out]) (by simp [bv,Value.oneCell']) ?_) | (go_at_call 144;refine (HIH.out _).mono ?_;rintro e w4 ⟨rfl,rfl⟩))
    have hr4:=setRow_heap _ _ _ (bv zs).toArray _ _ HR3.out
    have hmm4:=zh (HM3.out.setRow (fun h=>by have:=HRB.out;omega) (bv zs).toArray:Mod No w (w4.setRow rb (bv zs).toArray))
    have hl:=run_loadVar_row (P:=prog) (w4.setRow rb (bv zs).toArray) rb 43 43 (bv zs).toArray (0,0) _ hr4 underlying43 rfl (key_size HZL.out)
    exact bodyPost_ret (v:=.tuple #[keyV zs,.bool false]) (by simp [results,results107,asAddr,hl]) rfl (fin hR ⟨rfl,hmm4.out⟩)
   ·obtain ⟨x,hx,hx16⟩:=HGOOD.out i (by omega) (by omega)
    have HXI:=zh (show hexI l[i]=(x:Int) by unfold hexI;rw [hx])
    rw [HXI.out] at HIH
    obtain ⟨y,hy⟩:=HCS.out.2 (i / 2) (by omega)
    generalize (l[i].toNat:Int)=ch at *
    obtain ⟨j,hj⟩:∃ j,j=i / 2:=⟨_,rfl⟩
    rw [<- hj] at hy
    have c0:wr.cell? ⟨kb,j,none⟩=some (.int .u8 y):=cell_ofA HK3.out hy
    have f0:=frozen_of j HK3.out
    have q1:(i:Int) / 2=(j:Int):=by omega
    have q1':Int.tdiv (i:Int) 2=(j:Int):=by rw [Int.tdiv_eq_ediv_of_nonneg hi0];exact q1
    have j0:(0:Int)<=(j:Int):=Int.natCast_nonneg _
    have j1:(j:Int) < 32:=by omega
    have x0:(0:Int)<=(x:Int):=Int.natCast_nonneg _
    have x1:(x:Int) < 16:=by omega
    clear hj hx hy
    go_wp2_with fail
    with_reducible refine (HIH.out _).mono ?_
    rintro e w4 ⟨rfl,hw4⟩
    subst hw4
    go_wp2_with fail
    have hkb:=HKB.out
    exact ⟨⟨i+1,_,by omega,rfl,HM3.out.setCell (fun h=>by have:=HRB.out;dsimp only at h;omega) _,by rw [heap_setCell_ne _ (by dsimp only;omega)];exact HR3.out,by rw [heap_setCell HK3.out],HCS.out.set _ _⟩,by show 64 - ((i:Int)+1).toNat < 64 - (i:Int).toNat;omega⟩
theorem wrap_nat {k:Nat} (h:k<=1000000000):wrap64 (k:Int)=(k:Int):=by
 unfold wrap64
 omega
theorem lines_cases (l:List UInt8):∃ k,(splitC 10 l).length=k+1/\∃ last,(splitC 10 l)[k]? = some last ∧
  (last=[]->k=(linesL l).length/\strs (linesL l)=((strs (splitC 10 l)).drop 0).take k)/\(last ≠ []->(linesL l).length=k+1/\strs (linesL l)=strs (splitC 10 l)):=by
 have hne:=splitC_ne 10 l
 unfold linesL
 generalize splitC 10 l=ps at *
 have e:=List.dropLast_concat_getLast hne
 obtain ⟨d,z,rfl⟩:∃ d z,ps=d++[z]:=⟨_,_,e.symm⟩
 refine ⟨d.length,by simp,z,by simp,fun hz=>?_,fun hz=>?_⟩
 ·subst hz
  rw [if_pos (by simp)]
  refine ⟨by simp,?_⟩
  rw [List.dropLast_concat,List.drop_zero]
  simp [strs]
 ·rw [if_neg (by simpa using hz)]
  exact ⟨by simp,rfl⟩
set_option maxRecDepth 100000 in
set_option maxHeartbeats 4000000 in
theorem reflines_any (l:List UInt8) (hl:l.length<=1000000) (w:World) :
  Calls prog 31 #[strV l] w fun e w'=>∃ v,e=.returned v/\Sl w' No 9 v (linesL l).length (strs (linesL l))/\Mod No w w':=by
 refine calls_hide fun R hR=>?_
 have HSP:=zh (show Calls prog 44 #[strV l,.int .u8 10] w fun e w'=>∃ v,e=.returned v/\w'.ownsRow w.heap.size 9 1 v (splitC 10 l).length (strs (splitC 10 l))/\Mod No w w' from refsplit_any 10 l hl w)
 have HL:=zh (lines_cases l)
 
 unfold strV at *
 generalize (⟨l.toArray⟩:ByteArray)=Z at *
 obtain ⟨k,hk,last,hlast,h1,h2⟩:=HL.out
 have hkl:k<=1000000:=by
  have:=splitC_length_le 10 l
  omega
 rw [hk] at HSP
 have hcl:(strs (splitC 10 l))[k]? = some (.string ⟨last.toArray⟩):=by
  rw [strs,List.getElem?_map,hlast];rfl
 have H1:=zh h1
 have H2:=zh h2
 have hsl:(strs (splitC 10 l)).length=k+1:=by rw [strs_length,hk]
 clear HL h1 h2 hlast hk
 generalize strs (splitC 10 l)=cs at *
 go_enter func31,ntmps31
 go_wp2_with fail
 with_reducible refine HSP.out.mono ?_
 rintro e w1 ⟨v,rfl,hown,hm⟩
 have HS:=zh (Sl.of_own (X:=No) hown (fun _ _ f=>f))
 obtain ⟨gb,go,gc,rfl,hgc,hgm,_⟩:=HS.out.shape (Nat.succ_pos k)
 have hcell:=Sl.cell HS.out (i:=k) (by omega)
 rw [hcl] at hcell
 dsimp only at hcell
 have HM:=zh hm
 have hk0:(0:Int)<=(k:Int):=Int.natCast_nonneg _
 have hgc':(k:Int)<=(gc:Int):=by omega
 have hwk:=wrap_nat (k:=k) (by omega)
 clear hm hown HSP
 have hT:=str_list last
 by_cases hn:last=[]
 ·subst hn
  have HP:=zh (Sl.part HS.out hsl 0 k gc (by omega) (by omega) hgm)
  have H3:=zh (H1.out rfl)
  clear H1 H2
  go_wp2_with fail
  refine fin hR ⟨_,rfl,?_,HM.out⟩
  rw [<- H3.out.1,H3.out.2]
  exact HP.out
 ·have hne:(⟨last.toArray⟩:ByteArray).toList.isEmpty=false:=by rw [hT];simpa using hn
  have hne2:last.isEmpty=false:=by simpa using hn
  have H3:=zh (H2.out hn)
  clear H1 H2
  go_wp2_with fail
  refine fin hR ⟨_,rfl,?_,HM.out⟩
  rw [H3.out.1,H3.out.2]
  exact HS.out
set_option maxRecDepth 100000 in
set_option maxHeartbeats 4000000 in
theorem lines_any (l:List UInt8) (hl:l.length<=1000000) (w:World) (hgl:Gl w) :
  Calls prog 38 #[strV l] w fun e w'=>∃ v,e=.returned v/\Sl w' No 9 v (linesL l).length (strs (linesL l))/\Mod No w w':=by
 refine calls_hide fun R hR=>?_
 have HSP:=zh (show Calls prog 79 #[strV l,.string ⟨#[10]⟩] w fun e w'=>∃ v,e=.returned v/\w'.ownsRow w.heap.size 9 1 v (splitC 10 l).length (strs (splitC 10 l))/\Mod No w w' from split_any 10 l hl w hgl)
 have HL:=zh (lines_cases l)
 clear hgl
 unfold strV at *
 generalize (⟨l.toArray⟩:ByteArray)=Z at *
 obtain ⟨k,hk,last,hlast,h1,h2⟩:=HL.out
 have hkl:k<=1000000:=by
  have:=splitC_length_le 10 l
  omega
 rw [hk] at HSP
 have hcl:(strs (splitC 10 l))[k]? = some (.string ⟨last.toArray⟩):=by
  rw [strs,List.getElem?_map,hlast];rfl
 have H1:=zh h1
 have H2:=zh h2
 have hsl:(strs (splitC 10 l)).length=k+1:=by rw [strs_length,hk]
 clear HL h1 h2 hlast hk
 generalize strs (splitC 10 l)=cs at *
 go_enter func38,ntmps38
 go_wp2_with fail
 with_reducible refine HSP.out.mono ?_
 rintro e w1 ⟨v,rfl,hown,hm⟩
 have HS:=zh (Sl.of_own (X:=No) hown (fun _ _ f=>f))
 obtain ⟨gb,go,gc,rfl,hgc,hgm,_⟩:=HS.out.shape (Nat.succ_pos k)
 have hcell:=Sl.cell HS.out (i:=k) (by omega)
 rw [hcl] at hcell
 dsimp only at hcell
 have HM:=zh hm
 have hk0:(0:Int)<=(k:Int):=Int.natCast_nonneg _
 have hgc':(k:Int)<=(gc:Int):=by omega
 have hwk:=wrap_nat (k:=k) (by omega)
 clear hm hown HSP
 have hT:=str_list last
 by_cases hn:last=[]
 ·subst hn
  have HP:=zh (Sl.part HS.out hsl 0 k gc (by omega) (by omega) hgm)
  have H3:=zh (H1.out rfl)
  clear H1 H2
  go_wp2_with fail
  refine fin hR ⟨_,rfl,?_,HM.out⟩
  rw [<- H3.out.1,H3.out.2]
  exact HP.out
 ·have hne:(⟨last.toArray⟩:ByteArray).toList.isEmpty=false:=by rw [hT];simpa using hn
  have hne2:last.isEmpty=false:=by simpa using hn
  have H3:=zh (H2.out hn)
  clear H1 H2
  go_wp2_with fail
  refine fin hR ⟨_,rfl,?_,HM.out⟩
  rw [H3.out.1,H3.out.2]
  exact HS.out
set_option maxRecDepth 100000 in
theorem silent_any (l:List UInt8) (w:World):Calls prog 39 #[strV l] w fun e w'=>e=.returned (.bool (silentB l))/\w'=w:=by
 refine calls_hide fun R hR=>?_
 have HX:=zh (run_at l)
 have hT:=str_list l
 unfold strV at *
 cases l with
 | nil =>
  clear HX
  go_enter func39,ntmps39
  go_wp2_with fail
  exact fin hR ⟨rfl,rfl⟩
 | cons c r =>
  have hx0:∀ W:World,(Instr.index 9 (.string ⟨(c :: r).toArray⟩) (.int .i64 0)).run prog W=.ok (.int .u8 (c.toNat:Int)) W:=fun W=>HX.out 0 (by simp) W
  have he:(⟨(c :: r).toArray⟩:ByteArray).toList.isEmpty=false:=by rw [hT];rfl
  generalize (⟨(c :: r).toArray⟩:ByteArray)=Z at *
  clear HX
  go_enter func39,ntmps39
  by_cases hc:c=35
  ·subst hc
   have hB:=zh (show silentB (35 :: r)=true from rfl)
   go_wp2_with fail
   exact fin hR ⟨(by rw [hB.out];try rfl),rfl⟩
  ·have hB:=zh (show silentB (c :: r)=false by unfold silentB;simp [hc])
   have hn:((c.toNat:Int) == 35)=false:=by
    have:c.toNat ≠ 35:=fun e=>hc (by rw [<- UInt8.toNat_inj];exact e)
    simp;omega
   generalize (c.toNat:Int)=z at *
   go_wp2_with fail
   exact fin hR ⟨(by rw [hB.out];try rfl),rfl⟩
end Go.Proofs.YtgiigemfbebcgaaGreatDoor
