/-
  Layers 0 to 14: helps of the laws of indexes. No statement is proved here; no condition.
-/
import Derived.Test.YtmppeipgjcjdkaaGreatDoorX04
import Derived.Test.YtmppeipgjcjdkaaGreatDoorX01
import Derived.Test.YtmppeipgjcjdkaaGreatDoorX16
import Derived.Test.YtmppeipgjcjdkaaGreatDoorX03
namespace Go.Proofs.YtmppeipgjcjdkaaGreatDoor
open _root_.Go.Proofs.Tryz
open Go.RowKit
set_option maxRecDepth 100000 in
set_option maxHeartbeats 4000000 in
theorem indexfunc_fls (g:Nat) (lb:Array Value) (eg:∀ args w,(callFunc g args).run prog w=.ok (.enter g args) w) (p:FlX->Bool) (xs:List FlX) (hx:xs.length<=1000000) (hc:∀ x ∈ xs,(FlX.cells x).length=3) (v:Value) (w:World) (hv:SvX w No v xs.length (xs.flatMap FlX.cells))
  (hp:∀ i (hi:i < xs.length),∀ W,Mod No w W->Calls prog g (#[.agg (FlX.cells xs[i]).toArray]++lb) W fun e w'=>e=.returned (.bool (p xs[i]))/\Mod No W w') :
  Calls prog 111 #[v,.func (.func g) #[] lb] w fun e w'=>e=.returned (.int .i64 (findI p xs))/\Mod No w w':=by
 refine calls_hide fun R hR=>?_
 obtain ⟨va,vc,rfl⟩:=hv.len
 have HV:=zh hv
 have HP:=zh hp
 have HCL:=zh hc
 clear hv hp hc
 go_enter func111,ntmps111
 go_wp2_with fail
 go_loopw [8] (fun q wr=>∃ k:Nat,k<=xs.length/\q=.int .i64 k/\Mod No w wr/\∀ i (hi:i < xs.length),i < k->p xs[i]=false) (fun q _=>xs.length - (intOf q).toNat)
 case atStart=>exact ⟨0,by omega,rfl,Mod.refl _ _,fun i _ hi=>absurd hi (by omega)⟩
 case round =>
  obtain ⟨k,hk,rfl,hmod,hno⟩:=hrel
  have HM:=zh hmod
  have HNO:=zh hno
  have hk0:(0:Int)<=(k:Int):=Int.natCast_nonneg _
  clear hmod hno
  by_cases hlt:k < xs.length
  ·have hk1:(k:Int) < (xs.length:Int):=by omega
   obtain ⟨b,o,c,hvs,_⟩:=HV.out.shape (by omega)
   cases hvs
   obtain ⟨te,htl⟩:=HV.out.get (by omega)
   have hrg:=HM.out.rangeAt (Sl.atM HCL.out htl hlt) (fun f=>f)
   have HRG:=zh hrg
   have HCK:=zh (HCL.out _ (List.getElem_mem hlt))
   have HC:=zh (HP.out k hlt _ HM.out)
   have HN:=zh (show p xs[k]=false->∀ i (hi:i < xs.length),i < k+1->p xs[i]=false from fun h i hi hik=>by
    rcases Nat.lt_or_ge i k with h3 | h3
    ·exact HNO.out i hi h3
    ·obtain rfl:i=k:=by omega
     exact h)
   have HH:=zh (show p xs[k]=true->findI p xs=(k:Int) from fun h=>findI_hit hlt HNO.out h)
   clear HNO hrg htl
   generalize FlX.cells xs[k]=cs at *
   go_wp2_with (refine wpList_load_mid rfl 51 _ rfl b (o+k*3) rfl cs _ HRG.out (underlying51) rfl (by rw [HCK.out];kernel_rfl) ?_)
   with_reducible refine HC.out.mono ?_
   rintro e w2 ⟨rfl,hm2⟩
   have HM2:=zh (HM.out.trans hm2)
   clear hm2 HC HRG HCK
   generalize p xs[k]=pk at *
   rcases pk with _ | _
   ·go_wp2_with fail
    exact ⟨⟨k+1,by omega,rfl,HM2.out,HN.out (by trivial)⟩,by show xs.length - ((k:Int)+1).toNat < xs.length - (k:Int).toNat;omega⟩
   ·have hf:=HH.out (by trivial)
    go_wp2_with fail
    refine fin hR ⟨?_,HM2.out⟩
    rw [hf]
    rfl
  ·go_wp2_with fail
   refine fin hR ⟨?_,HM.out⟩
   rw [findI_none (p:=p) (l:=xs) (fun i hi=>HNO.out i hi (by omega))]
   rfl
set_option maxRecDepth 100000 in
theorem containsfunc_fls (g:Nat) (lb:Array Value) (eg:∀ args w,(callFunc g args).run prog w=.ok (.enter g args) w) (p:FlX->Bool) (xs:List FlX) (hx:xs.length<=1000000) (hc:∀ x ∈ xs,(FlX.cells x).length=3) (v:Value) (w:World) (hv:SvX w No v xs.length (xs.flatMap FlX.cells))
  (hp:∀ i (hi:i < xs.length),∀ W,Mod No w W->Calls prog g (#[.agg (FlX.cells xs[i]).toArray]++lb) W fun e w'=>e=.returned (.bool (p xs[i]))/\Mod No W w') :
  Calls prog 47 #[v,.func (.func g) #[] lb] w fun e w'=>e=.returned (.bool (xs.any p))/\Mod No w w':=by
 refine calls_hide fun R hR=>?_
 have HC:=zh (indexfunc_fls g lb eg p xs hx hc v w hv hp)
 obtain ⟨va,vc,rfl⟩:=hv.len
 have HA:=zh (findI_any p xs)
 clear hv hp
 go_enter func47,ntmps47
 go_wp2_with fail
 with_reducible refine HC.out.mono ?_
 rintro e w2 ⟨rfl,hm2⟩
 have HM2:=zh hm2
 clear hm2 HC
 generalize findI p xs=r at *
 go_wp2_with fail
 refine fin hR ⟨bool_ret ?_,HM2.out⟩
 exact HA.out
theorem str_slash (a:List UInt8):(⟨a.toArray⟩:ByteArray) ++ ⟨#[47]⟩=⟨(a++[47]).toArray⟩:=by
 apply ByteArray.ext
 rw [ByteArray.data_append]
 simp
theorem pref_slash (d p:List UInt8):(d++[47]).isPrefixOf p=decide (p.take (d++[47]).length=d++[47]):=by
 by_cases h:(d++[47]) <+: p
 ·rw [List.isPrefixOf_iff_prefix.2 h,decide_eq_true (List.prefix_iff_eq_take.1 h).symm]
 ·rw [decide_eq_false (fun e=>h (List.prefix_iff_eq_take.2 e.symm))]
  cases hb:(d++[47]).isPrefixOf p with
  | false=>rfl
  | true=>exact absurd (List.isPrefixOf_iff_prefix.1 hb) h
set_option maxRecDepth 100000 in
set_option maxHeartbeats 4000000 in
theorem pathin_any (p d:List UInt8) (hd:d.length<=1000000) (w:World) :
  Calls prog 51 #[strV p,strV d] w fun e w'=>e=.returned (.bool (withinB p d))/\w'=w:=by
 refine calls_hide fun R hR=>?_
 have HPF:=zh (fun W=>hasprefix_any p (d++[47]) W)
 have HW:=zh (show withinB p d=(d.isEmpty || decide (p=d) || (d++[47]).isPrefixOf p) from rfl)
 have HAP:=zh (str_slash d)
 have hz:=str_len3 d
 have hT1:=str_list p
 have hT2:=str_list d
 unfold strV at *
 generalize withinB p d=r at *
 generalize (⟨(d++[47]).toArray⟩:ByteArray)=DS at *
 generalize (⟨p.toArray⟩:ByteArray)=P1 at *
 generalize (⟨d.toArray⟩:ByteArray)=D1 at *
 go_enter func51,ntmps51
 by_cases h0:d=[]
 ·subst h0
  have HR:=zh (show r=true by rw [HW.out];rfl)
  clear HW HPF HAP
  go_wp2_with fail
  refine fin hR ⟨bool_ret ?_,rfl⟩
  rw [HR.out]
 have hne:(d.isEmpty)=false:=by simpa using h0
 by_cases h1:p=d
 ·subst h1
  have HR:=zh (show r=true by rw [HW.out];simp)
  have h12:P1=D1:=by rw [bytes_of_toList hT1,bytes_of_toList hT2]
  subst h12
  clear HW HPF HAP
  go_wp2_with fail
  refine fin hR ⟨bool_ret ?_,rfl⟩
  rw [HR.out]
 have he:(p == d)=false:=by simpa using h1
 have HR:=zh (show r=(d++[47]).isPrefixOf p by rw [HW.out,hne,decide_eq_false h1];rfl)
 have hsz:¬ (9223372036854775807 < D1.size+1):=by omega
 have hap:=HAP.out
 clear HW h0 h1 HAP
 go_wp2_with fail
 with_reducible refine (HPF.out _).mono ?_
 rintro e w2 ⟨rfl,h2⟩
 rw [h2]
 clear h2 HPF
 go_wp2_with fail
 refine fin hR ⟨bool_ret ?_,rfl⟩
 rw [HR.out,pref_slash,List.length_append]
 rfl
end Go.Proofs.YtmppeipgjcjdkaaGreatDoor
