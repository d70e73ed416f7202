/-
  Layers 0 to 14: helps of the laws of indexes. No statement is proved here; no condition.
-/
import Derived.Test.YtmppeipgjcjdkaaGreatDoorW05
import Derived.Test.YtmppeipgjcjdkaaGreatDoorW32
namespace Go.Proofs.YtmppeipgjcjdkaaGreatDoor
open _root_.Go.Proofs.Tryz
open Go.RowKit
def Gl (w:World):Prop:=∃ m,w.cell? ⟨0,0,none⟩=some (.int .i64 m)
theorem Gl.stay {S:Nat->Prop} {w w':World} (h:Gl w) (hm:Mod S w w') (hs:¬ S 0):Gl w':=by
 obtain ⟨m,hm2⟩:=h
 exact ⟨m,hm.cell hm2 hs⟩
theorem split_any (c:UInt8) (l:List UInt8) (hl:l.length<=1000000) (w:World) (hg:Gl w) :
  Calls prog 106 #[strV l,.string ⟨#[c]⟩] w fun e w'=>∃ v,e=.returned v/\w'.ownsRow w.heap.size 9 1 v (splitC c l).length (strs (splitC c l))/\Mod No w w':=by
 obtain ⟨m,hm⟩:=hg
 have hlen:=splitC_length_le c l
 refine (Tryz.strings_Split ⟨l.toArray⟩ ⟨#[c]⟩ m w (by rw [str_len3];omega) hm (Nat.le_refl _)).mono fun e w' ⟨he,hw⟩=>?_
 have hs:=splitB_strs c l
 have hn:Lib.countB ⟨l.toArray⟩ ⟨#[c]⟩+1=(splitC c l).length:=by
  rw [<- Lib.splitB_all ⟨#[c]⟩ (Nat.le_refl _) 0 _ ⟨l.toArray⟩ rfl,<- List.length_map (f:=Value.string),hs,strs_length]
 rw [hs] at hw
 rw [hn] at he
 refine ⟨_,he,?_,?_⟩
 ·rw [hw]
  have:=own_alloc (w:=w) (e:=9) (xs:=strs (splitC c l)) (by rw [strs_length];unfold maxLen;omega)
  rw [strs_length] at this
  exact this
 ·rw [hw];exact (Mod.refl No w).alloc _
theorem wrap_nat {k:Nat} (h:k<=1000000000):wrap64 (k:Int)=(k:Int):=by
 unfold wrap64
 omega
theorem lines_cases (l:List UInt8):∃ k,(splitC 10 l).length=k+1/\∃ last,(splitC 10 l)[k]? = some last ∧
  (last=[]->k=(linesL l).length/\strs (linesL l)=((strs (splitC 10 l)).drop 0).take k)/\(last ≠ []->(linesL l).length=k+1/\strs (linesL l)=strs (splitC 10 l)):=by
 have hne:=splitC_ne 10 l
 unfold linesL
 generalize splitC 10 l=ps at *
 have e:=List.dropLast_concat_getLast hne
 obtain ⟨d,z,rfl⟩:∃ d z,ps=d++[z]:=⟨_,_,e.symm⟩
 refine ⟨d.length,by simp,z,by simp,fun hz=>?_,fun hz=>?_⟩
 ·subst hz
  rw [if_pos (by simp)]
  refine ⟨by simp,?_⟩
  rw [List.dropLast_concat,List.drop_zero]
  simp [strs]
 ·rw [if_neg (by simpa using hz)]
  exact ⟨by simp,rfl⟩
set_option maxRecDepth 100000 in
set_option maxHeartbeats 4000000 in
theorem lines_any (l:List UInt8) (hl:l.length<=1000000) (w:World) (hgl:Gl w) :
  Calls prog 98 #[strV l] w fun e w'=>∃ v,e=.returned v/\Sl w' No 9 v (linesL l).length (strs (linesL l))/\Mod No w w':=by
 refine calls_hide fun R hR=>?_
 have HSP:=zh (show Calls prog 106 #[strV l,.string ⟨#[10]⟩] w fun e w'=>∃ v,e=.returned v/\w'.ownsRow w.heap.size 9 1 v (splitC 10 l).length (strs (splitC 10 l))/\Mod No w w' from split_any 10 l hl w hgl)
 have HL:=zh (lines_cases l)
 clear hgl
 unfold strV at *
 generalize (⟨l.toArray⟩:ByteArray)=Z at *
 obtain ⟨k,hk,last,hlast,h1,h2⟩:=HL.out
 have hkl:k<=1000000:=by
  have:=splitC_length_le 10 l
  omega
 rw [hk] at HSP
 have hcl:(strs (splitC 10 l))[k]? = some (.string ⟨last.toArray⟩):=by
  rw [strs,List.getElem?_map,hlast];rfl
 have H1:=zh h1
 have H2:=zh h2
 have hsl:(strs (splitC 10 l)).length=k+1:=by rw [strs_length,hk]
 clear HL h1 h2 hlast hk
 generalize strs (splitC 10 l)=cs at *
 go_enter func98,ntmps98
 go_wp2_with fail
 with_reducible refine HSP.out.mono ?_
 rintro e w1 ⟨v,rfl,hown,hm⟩
 have HS:=zh (Sl.of_own (X:=No) hown (fun _ _ f=>f))
 obtain ⟨gb,go,gc,rfl,hgc,hgm,_⟩:=HS.out.shape (Nat.succ_pos k)
 have hcell:=Sl.cell HS.out (i:=k) (by omega)
 rw [hcl] at hcell
 dsimp only at hcell
 have HM:=zh hm
 have hk0:(0:Int)<=(k:Int):=Int.natCast_nonneg _
 have hgc':(k:Int)<=(gc:Int):=by omega
 have hwk:=wrap_nat (k:=k) (by omega)
 clear hm hown HSP
 have hT:=str_list last
 by_cases hn:last=[]
 ·subst hn
  have HP:=zh (Sl.part HS.out hsl 0 k gc (by omega) (by omega) hgm)
  have H3:=zh (H1.out rfl)
  clear H1 H2
  go_wp2_with fail
  refine fin hR ⟨_,rfl,?_,HM.out⟩
  rw [<- H3.out.1,H3.out.2]
  exact HP.out
 ·have hne:(⟨last.toArray⟩:ByteArray).toList.isEmpty=false:=by rw [hT];simpa using hn
  have hne2:last.isEmpty=false:=by simpa using hn
  have H3:=zh (H2.out hn)
  clear H1 H2
  go_wp2_with fail
  refine fin hR ⟨_,rfl,?_,HM.out⟩
  rw [H3.out.1,H3.out.2]
  exact HS.out
set_option maxRecDepth 100000 in
theorem silent_any (l:List UInt8) (w:World):Calls prog 99 #[strV l] w fun e w'=>e=.returned (.bool (silentB l))/\w'=w:=by
 refine calls_hide fun R hR=>?_
 have HX:=zh (run_at l)
 have hT:=str_list l
 unfold strV at *
 cases l with
 | nil =>
  clear HX
  go_enter func99,ntmps99
  go_wp2_with fail
  exact fin hR ⟨rfl,rfl⟩
 | cons c r =>
  have hx0:∀ W:World,(Instr.index 9 (.string ⟨(c :: r).toArray⟩) (.int .i64 0)).run prog W=.ok (.int .u8 (c.toNat:Int)) W:=fun W=>HX.out 0 (by simp) W
  have he:(⟨(c :: r).toArray⟩:ByteArray).toList.isEmpty=false:=by rw [hT];rfl
  generalize (⟨(c :: r).toArray⟩:ByteArray)=Z at *
  clear HX
  go_enter func99,ntmps99
  by_cases hc:c=35
  ·subst hc
   have hB:=zh (show silentB (35 :: r)=true from rfl)
   go_wp2_with fail
   exact fin hR ⟨(by rw [hB.out];try rfl),rfl⟩
  ·have hB:=zh (show silentB (c :: r)=false by unfold silentB;simp [hc])
   have hn:((c.toNat:Int) == 35)=false:=by
    have:c.toNat ≠ 35:=fun e=>hc (by rw [<- UInt8.toNat_inj];exact e)
    simp;omega
   generalize (c.toNat:Int)=z at *
   go_wp2_with fail
   exact fin hR ⟨(by rw [hB.out];try rfl),rfl⟩
end Go.Proofs.YtmppeipgjcjdkaaGreatDoor
