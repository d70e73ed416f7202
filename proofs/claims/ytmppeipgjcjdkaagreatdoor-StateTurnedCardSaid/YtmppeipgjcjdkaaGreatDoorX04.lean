/-
  Layers 0 to 14: helps of the laws of indexes. No statement is proved here; no condition.
-/
import Derived.Test.YtmppeipgjcjdkaaGreatDoorX00
import Derived.Test.YtmppeipgjcjdkaaGreatDoorX02
import Derived.Test.YtmppeipgjcjdkaaGreatDoorX03
import Derived.Test.YtmppeipgjcjdkaaGreatDoorX01
namespace Go.Proofs.YtmppeipgjcjdkaaGreatDoor
open _root_.Go.Proofs.Tryz
open Go.RowKit
def Gl (w:World):Prop:=∃ m,w.cell? ⟨0,0,none⟩=some (.int .i64 m)
theorem Gl.stay {S:Nat->Prop} {w w':World} (h:Gl w) (hm:Mod S w w') (hs:¬ S 0):Gl w':=by
 obtain ⟨m,hm2⟩:=h
 exact ⟨m,hm.cell hm2 hs⟩
theorem split_any (c:UInt8) (l:List UInt8) (hl:l.length<=1000000) (w:World) (hg:Gl w) :
  Calls prog 106 #[strV l,.string ⟨#[c]⟩] w fun e w'=>∃ v,e=.returned v/\w'.ownsRow w.heap.size 9 1 v (splitC c l).length (strs (splitC c l))/\Mod No w w':=by
 obtain ⟨m,hm⟩:=hg
 have hlen:=splitC_length_le c l
 refine (Tryz.strings_Split ⟨l.toArray⟩ ⟨#[c]⟩ m w (by rw [str_len3];omega) hm (Nat.le_refl _)).mono fun e w' ⟨he,hw⟩=>?_
 have hs:=splitB_strs c l
 have hn:Lib.countB ⟨l.toArray⟩ ⟨#[c]⟩+1=(splitC c l).length:=by
  rw [<- Lib.splitB_all ⟨#[c]⟩ (Nat.le_refl _) 0 _ ⟨l.toArray⟩ rfl,<- List.length_map (f:=Value.string),hs,strs_length]
 rw [hs] at hw
 rw [hn] at he
 refine ⟨_,he,?_,?_⟩
 ·rw [hw]
  have:=own_alloc (w:=w) (e:=9) (xs:=strs (splitC c l)) (by rw [strs_length];unfold maxLen;omega)
  rw [strs_length] at this
  exact this
 ·rw [hw];exact (Mod.refl No w).alloc _
theorem cut_any (c:UInt8) (l:List UInt8) (hl:l.length<=1000000) (w:World) (hg:Gl w) :
  Calls prog 215 #[strV l,.string ⟨#[c]⟩] w fun e w'=>e=.returned (.tuple #[strV (headC c l),strV (tailC c l),.bool (decide (c ∈ l))])/\Mod No w w':=by
 obtain ⟨m,hm⟩:=hg
 refine (Tryz.strings_Cut ⟨l.toArray⟩ ⟨#[c]⟩ m w (by rw [str_len3];omega) hm).mono fun e w' ⟨he,n,hw⟩=>?_
 have h:=cut_C c l
 refine ⟨?_,by rw [hw];exact (Mod.refl No w).drewN n⟩
 rw [he]
 show Ending.returned (.tuple #[.string ⟨(Lib.cut l.toArray.toList [c]).1.toArray⟩,.string ⟨(Lib.cut l.toArray.toList [c]).2.1.toArray⟩,.bool (Lib.cut l.toArray.toList [c]).2.2])=_
 rw [List.toList_toArray,h]
def findI {α:Type} (p:α->Bool) (l:List α):Int:=match l.findIdx? p with
 | some i=>(i:Int)
 | none=>-1
theorem findI_none {α:Type} {p:α->Bool} {l:List α} (h:∀ i (hi:i < l.length),p l[i]=false):findI p l = -1:=by
 unfold findI
 rw [List.findIdx?_eq_none_iff.2 (fun x hx=>by
  obtain ⟨i,hi,rfl⟩:=List.getElem_of_mem hx
  exact h i hi)]
theorem findI_hit {α:Type} {p:α->Bool} {l:List α} {k:Nat} (hk:k < l.length) (h:∀ i (hi:i < l.length),i < k->p l[i]=false) (h2:p l[k]=true):findI p l=(k:Int):=by
 unfold findI
 rw [List.findIdx?_eq_some_iff_getElem.2 ⟨hk,h2,fun j hj=>by rw [h j (by omega) hj];simp⟩]
theorem findI_any {α:Type} (p:α->Bool) (l:List α):decide (0<=findI p l)=l.any p:=by
 by_cases h:l.any p=true
 ·rw [h]
  obtain ⟨x,hx,hp⟩:=List.any_eq_true.1 h
  unfold findI
  cases hf:l.findIdx? p with
  | none=>rw [List.findIdx?_eq_none_iff] at hf;rw [hf x hx] at hp;cases hp
  | some i=>simp
 ·have h2:l.any p=false:=by simpa using h
  rw [h2]
  unfold findI
  rw [List.findIdx?_eq_none_iff.2 (fun x hx=>by
   have:=List.any_eq_false.1 h2 x hx
   simpa using this)]
  rfl
set_option maxRecDepth 100000 in
set_option maxHeartbeats 4000000 in
theorem indexfunc_strs (g:Nat) (lb:Array Value) (eg:∀ args w,(callFunc g args).run prog w=.ok (.enter g args) w) (p:List UInt8->Bool) (xs:List (List UInt8)) (hx:xs.length<=1000000) (v:Value) (w:World) (hv:Sl w No 9 v xs.length (strs xs))
  (hp:∀ i (hi:i < xs.length),∀ W,Mod No w W->Calls prog g (#[strV xs[i]]++lb) W fun e w'=>e=.returned (.bool (p xs[i]))/\Mod No W w') :
  Calls prog 264 #[v,.func (.func g) #[] lb] w fun e w'=>e=.returned (.int .i64 (findI p xs))/\Mod No w w':=by
 refine calls_hide fun R hR=>?_
 obtain ⟨va,vc,rfl⟩:=hv.len
 have HV:=zh hv
 have HP:=zh hp
 clear hv hp
 go_enter func264,ntmps264
 go_wp2_with fail
 go_loopw [8] (fun q wr=>∃ k:Nat,k<=xs.length/\q=.int .i64 k/\Mod No w wr/\∀ i (hi:i < xs.length),i < k->p xs[i]=false) (fun q _=>xs.length - (intOf q).toNat)
 case atStart=>exact ⟨0,by omega,rfl,Mod.refl _ _,fun i _ hi=>absurd hi (by omega)⟩
 case round =>
  obtain ⟨k,hk,rfl,hmod,hno⟩:=hrel
  have HM:=zh hmod
  have HNO:=zh hno
  have hk0:(0:Int)<=(k:Int):=Int.natCast_nonneg _
  clear hmod hno
  by_cases hlt:k < xs.length
  ·have hk1:(k:Int) < (xs.length:Int):=by omega
   obtain ⟨b,o,c,hvs,_⟩:=HV.out.shape (by omega)
   cases hvs
   have hcell:=HM.out.cell (HV.out.cellN (i:=k) (by rw [strs_length];exact hlt)) (fun f=>f)
   rw [show (strs xs)[k]'(by rw [strs_length];exact hlt)=.string ⟨xs[k].toArray⟩ from by simp [strs,strV]] at hcell
   have HC:=zh (HP.out k hlt _ HM.out)
   have HN:=zh (show p xs[k]=false->∀ i (hi:i < xs.length),i < k+1->p xs[i]=false from fun h i hi hik=>by
    rcases Nat.lt_or_ge i k with h3 | h3
    ·exact HNO.out i hi h3
    ·obtain rfl:i=k:=by omega
     exact h)
   have HH:=zh (show p xs[k]=true->findI p xs=(k:Int) from fun h=>findI_hit hlt HNO.out h)
   clear HNO
   go_wp2_with fail
   with_reducible refine HC.out.mono ?_
   rintro e w2 ⟨rfl,hm2⟩
   have HM2:=zh (HM.out.trans hm2)
   clear hm2
   generalize p xs[k]=pk at *
   rcases pk with _ | _
   ·go_wp2_with fail
    exact ⟨⟨k+1,by omega,rfl,HM2.out,HN.out (by trivial)⟩,by show xs.length - ((k:Int)+1).toNat < xs.length - (k:Int).toNat;omega⟩
   ·have hf:=HH.out (by trivial)
    go_wp2_with fail
    refine fin hR ⟨?_,HM2.out⟩
    rw [hf]
    rfl
  ·go_wp2_with fail
   refine fin hR ⟨?_,HM.out⟩
   rw [findI_none (p:=p) (l:=xs) (fun i hi=>HNO.out i hi (by omega))]
   rfl
set_option maxRecDepth 100000 in
theorem containsfunc_strs (g:Nat) (lb:Array Value) (eg:∀ args w,(callFunc g args).run prog w=.ok (.enter g args) w) (p:List UInt8->Bool) (xs:List (List UInt8)) (hx:xs.length<=1000000) (v:Value) (w:World) (hv:Sl w No 9 v xs.length (strs xs))
  (hp:∀ i (hi:i < xs.length),∀ W,Mod No w W->Calls prog g (#[strV xs[i]]++lb) W fun e w'=>e=.returned (.bool (p xs[i]))/\Mod No W w') :
  Calls prog 217 #[v,.func (.func g) #[] lb] w fun e w'=>e=.returned (.bool (xs.any p))/\Mod No w w':=by
 refine calls_hide fun R hR=>?_
 have HC:=zh (indexfunc_strs g lb eg p xs hx v w hv hp)
 obtain ⟨va,vc,rfl⟩:=hv.len
 have HA:=zh (findI_any p xs)
 clear hv hp
 go_enter func217,ntmps217
 go_wp2_with fail
 with_reducible refine HC.out.mono ?_
 rintro e w2 ⟨rfl,hm2⟩
 have HM2:=zh hm2
 clear hm2 HC
 generalize findI p xs=r at *
 go_wp2_with fail
 refine fin hR ⟨bool_ret ?_,HM2.out⟩
 exact HA.out
set_option maxRecDepth 100000 in
set_option maxHeartbeats 4000000 in
theorem indexfunc_bnds (g:Nat) (lb:Array Value) (eg:∀ args w,(callFunc g args).run prog w=.ok (.enter g args) w) (p:BndX->Bool) (xs:List BndX) (hx:xs.length<=1000000) (hc:∀ x ∈ xs,(BndX.cells x).length=5) (v:Value) (w:World) (hv:Sl w No 255 v xs.length (xs.flatMap BndX.cells))
  (hp:∀ i (hi:i < xs.length),∀ W,Mod No w W->Calls prog g (#[.agg (BndX.cells xs[i]).toArray]++lb) W fun e w'=>e=.returned (.bool (p xs[i]))/\Mod No W w') :
  Calls prog 229 #[v,.func (.func g) #[] lb] w fun e w'=>e=.returned (.int .i64 (findI p xs))/\Mod No w w':=by
 refine calls_hide fun R hR=>?_
 obtain ⟨va,vc,rfl⟩:=hv.len
 have HV:=zh hv
 have HP:=zh hp
 have HCL:=zh hc
 clear hv hp hc
 go_enter func229,ntmps229
 go_wp2_with fail
 go_loopw [8] (fun q wr=>∃ k:Nat,k<=xs.length/\q=.int .i64 k/\Mod No w wr/\∀ i (hi:i < xs.length),i < k->p xs[i]=false) (fun q _=>xs.length - (intOf q).toNat)
 case atStart=>exact ⟨0,by omega,rfl,Mod.refl _ _,fun i _ hi=>absurd hi (by omega)⟩
 case round =>
  obtain ⟨k,hk,rfl,hmod,hno⟩:=hrel
  have HM:=zh hmod
  have HNO:=zh hno
  have hk0:(0:Int)<=(k:Int):=Int.natCast_nonneg _
  clear hmod hno
  by_cases hlt:k < xs.length
  ·have hk1:(k:Int) < (xs.length:Int):=by omega
   obtain ⟨b,o,c,hvs,_⟩:=HV.out.shape (by omega)
   cases hvs
   have hrg:=HM.out.rangeAt (Sl.atM HCL.out HV.out hlt) (fun f=>f)
   have HRG:=zh hrg
   have HCK:=zh (HCL.out _ (List.getElem_mem hlt))
   have HC:=zh (HP.out k hlt _ HM.out)
   have HN:=zh (show p xs[k]=false->∀ i (hi:i < xs.length),i < k+1->p xs[i]=false from fun h i hi hik=>by
    rcases Nat.lt_or_ge i k with h3 | h3
    ·exact HNO.out i hi h3
    ·obtain rfl:i=k:=by omega
     exact h)
   have HH:=zh (show p xs[k]=true->findI p xs=(k:Int) from fun h=>findI_hit hlt HNO.out h)
   clear HNO hrg
   generalize BndX.cells xs[k]=cs at *
   go_wp2_with (refine wpList_load_mid rfl 255 _ rfl b (o+k*5) rfl cs _ HRG.out (underlying255) rfl (by rw [HCK.out];kernel_rfl) ?_)
   with_reducible refine HC.out.mono ?_
   rintro e w2 ⟨rfl,hm2⟩
   have HM2:=zh (HM.out.trans hm2)
   clear hm2 HC HRG HCK
   generalize p xs[k]=pk at *
   rcases pk with _ | _
   ·go_wp2_with fail
    exact ⟨⟨k+1,by omega,rfl,HM2.out,HN.out (by trivial)⟩,by show xs.length - ((k:Int)+1).toNat < xs.length - (k:Int).toNat;omega⟩
   ·have hf:=HH.out (by trivial)
    go_wp2_with fail
    refine fin hR ⟨?_,HM2.out⟩
    rw [hf]
    rfl
  ·go_wp2_with fail
   refine fin hR ⟨?_,HM.out⟩
   rw [findI_none (p:=p) (l:=xs) (fun i hi=>HNO.out i hi (by omega))]
   rfl
set_option maxRecDepth 100000 in
theorem containsfunc_bnds (g:Nat) (lb:Array Value) (eg:∀ args w,(callFunc g args).run prog w=.ok (.enter g args) w) (p:BndX->Bool) (xs:List BndX) (hx:xs.length<=1000000) (hc:∀ x ∈ xs,(BndX.cells x).length=5) (v:Value) (w:World) (hv:Sl w No 255 v xs.length (xs.flatMap BndX.cells))
  (hp:∀ i (hi:i < xs.length),∀ W,Mod No w W->Calls prog g (#[.agg (BndX.cells xs[i]).toArray]++lb) W fun e w'=>e=.returned (.bool (p xs[i]))/\Mod No W w') :
  Calls prog 167 #[v,.func (.func g) #[] lb] w fun e w'=>e=.returned (.bool (xs.any p))/\Mod No w w':=by
 refine calls_hide fun R hR=>?_
 have HC:=zh (indexfunc_bnds g lb eg p xs hx hc v w hv hp)
 obtain ⟨va,vc,rfl⟩:=hv.len
 have HA:=zh (findI_any p xs)
 clear hv hp
 go_enter func167,ntmps167
 go_wp2_with fail
 with_reducible refine HC.out.mono ?_
 rintro e w2 ⟨rfl,hm2⟩
 have HM2:=zh hm2
 clear hm2 HC
 generalize findI p xs=r at *
 go_wp2_with fail
 refine fin hR ⟨bool_ret ?_,HM2.out⟩
 exact HA.out
set_option maxRecDepth 100000 in
set_option maxHeartbeats 4000000 in
theorem indexfunc_ors (g:Nat) (lb:Array Value) (eg:∀ args w,(callFunc g args).run prog w=.ok (.enter g args) w) (p:OrX->Bool) (xs:List OrX) (hx:xs.length<=1000000) (v:Value) (w:World) (hv:Sl w No 252 v xs.length (xs.map OrX.v))
  (hp:∀ i (hi:i < xs.length),∀ W,Mod No w W->Calls prog g (#[OrX.v xs[i]]++lb) W fun e w'=>e=.returned (.bool (p xs[i]))/\Mod No W w') :
  Calls prog 228 #[v,.func (.func g) #[] lb] w fun e w'=>e=.returned (.int .i64 (findI p xs))/\Mod No w w':=by
 refine calls_hide fun R hR=>?_
 obtain ⟨va,vc,rfl⟩:=hv.len
 have HV:=zh hv
 have HP:=zh hp
 clear hv hp
 go_enter func228,ntmps228
 go_wp2_with fail
 go_loopw [8] (fun q wr=>∃ k:Nat,k<=xs.length/\q=.int .i64 k/\Mod No w wr/\∀ i (hi:i < xs.length),i < k->p xs[i]=false) (fun q _=>xs.length - (intOf q).toNat)
 case atStart=>exact ⟨0,by omega,rfl,Mod.refl _ _,fun i _ hi=>absurd hi (by omega)⟩
 case round =>
  obtain ⟨k,hk,rfl,hmod,hno⟩:=hrel
  have HM:=zh hmod
  have HNO:=zh hno
  have hk0:(0:Int)<=(k:Int):=Int.natCast_nonneg _
  clear hmod hno
  by_cases hlt:k < xs.length
  ·have hk1:(k:Int) < (xs.length:Int):=by omega
   obtain ⟨b,o,c,hvs,_⟩:=HV.out.shape (by omega)
   cases hvs
   have hcell:=HM.out.cell (HV.out.cellN (i:=k) (by rw [List.length_map];exact hlt)) (fun f=>f)
   rw [show (xs.map OrX.v)[k]'(by rw [List.length_map];exact hlt)=OrX.v xs[k] from by simp] at hcell
   have HC:=zh (HP.out k hlt _ HM.out)
   have HN:=zh (show p xs[k]=false->∀ i (hi:i < xs.length),i < k+1->p xs[i]=false from fun h i hi hik=>by
    rcases Nat.lt_or_ge i k with h3 | h3
    ·exact HNO.out i hi h3
    ·obtain rfl:i=k:=by omega
     exact h)
   have HH:=zh (show p xs[k]=true->findI p xs=(k:Int) from fun h=>findI_hit hlt HNO.out h)
   clear HNO
   generalize OrX.v xs[k]=cv at *
   go_wp2_with fail
   with_reducible refine HC.out.mono ?_
   rintro e w2 ⟨rfl,hm2⟩
   have HM2:=zh (HM.out.trans hm2)
   clear hm2 HC hcell
   generalize p xs[k]=pk at *
   rcases pk with _ | _
   ·go_wp2_with fail
    exact ⟨⟨k+1,by omega,rfl,HM2.out,HN.out (by trivial)⟩,by show xs.length - ((k:Int)+1).toNat < xs.length - (k:Int).toNat;omega⟩
   ·have hf:=HH.out (by trivial)
    go_wp2_with fail
    refine fin hR ⟨?_,HM2.out⟩
    rw [hf]
    rfl
  ·go_wp2_with fail
   refine fin hR ⟨?_,HM.out⟩
   rw [findI_none (p:=p) (l:=xs) (fun i hi=>HNO.out i hi (by omega))]
   rfl
set_option maxRecDepth 100000 in
theorem containsfunc_ors (g:Nat) (lb:Array Value) (eg:∀ args w,(callFunc g args).run prog w=.ok (.enter g args) w) (p:OrX->Bool) (xs:List OrX) (hx:xs.length<=1000000) (v:Value) (w:World) (hv:Sl w No 252 v xs.length (xs.map OrX.v))
  (hp:∀ i (hi:i < xs.length),∀ W,Mod No w W->Calls prog g (#[OrX.v xs[i]]++lb) W fun e w'=>e=.returned (.bool (p xs[i]))/\Mod No W w') :
  Calls prog 165 #[v,.func (.func g) #[] lb] w fun e w'=>e=.returned (.bool (xs.any p))/\Mod No w w':=by
 refine calls_hide fun R hR=>?_
 have HC:=zh (indexfunc_ors g lb eg p xs hx v w hv hp)
 obtain ⟨va,vc,rfl⟩:=hv.len
 have HA:=zh (findI_any p xs)
 clear hv hp
 go_enter func165,ntmps165
 go_wp2_with fail
 with_reducible refine HC.out.mono ?_
 rintro e w2 ⟨rfl,hm2⟩
 have HM2:=zh hm2
 clear hm2 HC
 generalize findI p xs=r at *
 go_wp2_with fail
 refine fin hR ⟨bool_ret ?_,HM2.out⟩
 exact HA.out
set_option maxRecDepth 100000 in
set_option maxHeartbeats 4000000 in
theorem holds_any (b:Bnd) (bpv:Value) (v:Ver) (pv:Value) (hb:Small b.v) (hv:Small v) (w:World) (hbp:Sl w No 9 bpv b.v.pre.length (strs b.v.pre)) (hvp:SvX w No pv v.pre.length (strs v.pre)) :
  Calls prog 169 #[.agg (BndX.cells ⟨b,bpv⟩).toArray,verV v pv] w fun e w'=>e=.returned (.bool (holdsB b v))/\Mod No w w':=by
 refine calls_hide fun R hR=>?_
 have HCM:=zh (fun (W:World) (hm:Mod No w W)=>vercmp_sv v b.v hv hb pv bpv W (hvp.kn hm) (.of (hbp.kn hm)))
 obtain ⟨va,vc,rfl⟩:=hbp.len
 obtain ⟨ua,uc,rfl⟩:=hvp.len
 clear hbp hvp hb hv
 have HB:=zh (show holdsB b v=if b.sign=[61] then decide (verC v b.v=0) else if b.sign=[60] then decide (verC v b.v < 0) else if b.sign=[60,61] then decide (verC v b.v<=0) else if b.sign=[62] then decide (0 < verC v b.v) else if b.sign=[62,61] then decide (0<=verC v b.v) else false from rfl)
 generalize verC v b.v=z at *
 generalize holdsB b v=r at *
 obtain ⟨sg,⟨b0,b1,b2,bp⟩⟩:=b
 obtain ⟨v0,v1,v2,vp⟩:=v
 unfold BndX.cells verCs verV strV at *
 dsimp only at *
 have hT:=str_list sg
 generalize (⟨sg.toArray⟩:ByteArray)=S at *
 have HT:=zh hT
 clear hT
 go_enter func169,ntmps169
 go_upto_region 1 with fail
 obtain ⟨gx,hgx⟩:∃ g,g=w.heap.size:=⟨_,rfl⟩
 rw [<- hgx]
 generalize hw1:World.alloc (World.alloc w _) _=w1
 have hx1:w1.heap[gx]? = some (.cells #[.string S,.int .i64 b0,.int .i64 b1,.int .i64 b2,.slice va bp.length vc] 255 (0,0)):=by rw [<- hw1,hgx];exact heap_alloc_old _ (heap_alloc_new w _)
 have hy1:w1.heap[gx+1]? = some (.cells #[.int .i64 v0,.int .i64 v1,.int .i64 v2,.slice ua vp.length uc] 45 (0,0)):=by rw [<- hw1,hgx];exact heap_at_new _ _ (by simp)
 have hm1:Mod No w w1:=by rw [<- hw1];exact ((Mod.refl No w).alloc _).alloc _
 have c1:=cell_ofA hx1 (i:=1) rfl
 have c2:=cell_ofA hx1 (i:=2) rfl
 have c3:=cell_ofA hx1 (i:=3) rfl
 have c4:=cell_ofA hx1 (i:=4) rfl
 have d0:=cell_ofA hy1 (i:=0) rfl
 have d1:=cell_ofA hy1 (i:=1) rfl
 have d2:=cell_ofA hy1 (i:=2) rfl
 have d3:=cell_ofA hy1 (i:=3) rfl
 have HX1:=zh hx1
 have HM:=zh hm1
 have HCW:=zh (HCM.out w1 hm1)
 clear hw1 hgx hx1 hy1 hm1 HCM
 go_wp2_with fail
 with_reducible refine HCW.out.mono ?_
 rintro e w2 ⟨rfl,hm2⟩
 have HM2:=zh (HM.out.trans hm2)
 have e0:w2.cell? ⟨gx,0,none⟩=some (.string S):=cell_ofA (hm2.keep HX1.out (fun f=>f)) rfl
 clear hm2 HCW HM c1 c2 c3 c4 d0 d1 d2 d3
 have hT:S.toList=sg:=HT.out
 by_cases h1:sg=[61]
 ·subst h1
  have HB1:=zh (show r=decide (z=0) by rw [HB.out];rfl)
  clear HB HT
  go_wp2_with fail
  refine fin hR ⟨bool_ret ?_,HM2.out⟩
  rw [HB1.out]
  by_cases hz:z=0
  ·rw [decide_eq_true hz,hz];rfl
  ·rw [decide_eq_false hz];simpa using hz
 by_cases h2:sg=[60]
 ·subst h2
  have HB1:=zh (show r=decide (z < 0) by rw [HB.out];rfl)
  clear HB HT h1
  go_wp2_with fail
  refine fin hR ⟨bool_ret ?_,HM2.out⟩
  rw [HB1.out]
 by_cases h3:sg=[60,61]
 ·subst h3
  have HB1:=zh (show r=decide (z<=0) by rw [HB.out];rfl)
  clear HB HT h1 h2
  go_wp2_with fail
  refine fin hR ⟨bool_ret ?_,HM2.out⟩
  rw [HB1.out]
 by_cases h4:sg=[62]
 ·subst h4
  have HB1:=zh (show r=decide (0 < z) by rw [HB.out];rfl)
  clear HB HT h1 h2 h3
  go_wp2_with fail
  refine fin hR ⟨bool_ret ?_,HM2.out⟩
  rw [HB1.out]
 by_cases h5:sg=[62,61]
 ·subst h5
  have HB1:=zh (show r=decide (0<=z) by rw [HB.out];rfl)
  clear HB HT h1 h2 h3 h4
  go_wp2_with fail
  refine fin hR ⟨bool_ret ?_,HM2.out⟩
  rw [HB1.out]
 have HB1:=zh (show r=false by rw [HB.out,if_neg h1,if_neg h2,if_neg h3,if_neg h4,if_neg h5])
 have g1:(sg == [61])=false:=by simpa using h1
 have g2:(sg == [60])=false:=by simpa using h2
 have g3:(sg == [60,61])=false:=by simpa using h3
 have g4:(sg == [62])=false:=by simpa using h4
 have g5:(sg == [62,61])=false:=by simpa using h5
 clear HB HT h1 h2 h3 h4 h5
 go_wp2_with fail
 refine fin hR ⟨bool_ret ?_,HM2.out⟩
 rw [HB1.out]
set_option maxRecDepth 100000 in
set_option maxHeartbeats 4000000 in
theorem near_any (b:Bnd) (ba:Option Addr) (bc:Nat) (v:Ver) (pv:Value) (w:World) :
  Calls prog 171 #[.agg (BndX.cells ⟨b,.slice ba b.v.pre.length bc⟩).toArray,verV v pv] w fun e w'=>e=.returned (.bool (nearB b v))/\Mod No w w':=by
 refine calls_hide fun R hR=>?_
 have HB:=zh (show nearB b v=(!b.v.pre.isEmpty && decide (b.v.ma=v.ma) && decide (b.v.mi=v.mi) && decide (b.v.pa=v.pa)) from rfl)
 generalize nearB b v=r at *
 obtain ⟨sg,⟨b0,b1,b2,bp⟩⟩:=b
 obtain ⟨v0,v1,v2,vp⟩:=v
 unfold BndX.cells verCs verV strV at *
 dsimp only at *
 generalize (⟨sg.toArray⟩:ByteArray)=S at *
 go_enter func171,ntmps171
 go_upto_region 1 with fail
 obtain ⟨gx,hgx⟩:∃ g,g=w.heap.size:=⟨_,rfl⟩
 rw [<- hgx]
 generalize hw1:World.alloc (World.alloc w _) _=w1
 have hx1:w1.heap[gx]? = some (.cells #[.string S,.int .i64 b0,.int .i64 b1,.int .i64 b2,.slice ba bp.length bc] 255 (0,0)):=by rw [<- hw1,hgx];exact heap_alloc_old _ (heap_alloc_new w _)
 have hy1:w1.heap[gx+1]? = some (.cells #[.int .i64 v0,.int .i64 v1,.int .i64 v2,pv] 45 (0,0)):=by rw [<- hw1,hgx];exact heap_at_new _ _ (by simp)
 have HM:=zh (show Mod No w w1 by rw [<- hw1];exact ((Mod.refl No w).alloc _).alloc _)
 have c1:=cell_ofA hx1 (i:=1) rfl
 have c2:=cell_ofA hx1 (i:=2) rfl
 have c3:=cell_ofA hx1 (i:=3) rfl
 have c4:=cell_ofA hx1 (i:=4) rfl
 have d0:=cell_ofA hy1 (i:=0) rfl
 have d1:=cell_ofA hy1 (i:=1) rfl
 have d2:=cell_ofA hy1 (i:=2) rfl
 clear hw1 hgx hx1 hy1
 by_cases hp:bp=[]
 ·subst hp
  have HR:=zh (show r=false by rw [HB.out];rfl)
  clear HB
  go_wp2_with fail
  refine fin hR ⟨bool_ret ?_,HM.out⟩
  rw [HR.out]
 have hl:(0:Int) < (bp.length:Int):=by have:=List.length_pos_iff.2 hp;omega
 have hie:bp.isEmpty=false:=by simpa using hp
 rw [hie] at HB
 clear hie hp
 by_cases h0:b0=v0
 ·subst h0
  by_cases h1:b1=v1
  ·subst h1
   have HR:=zh (show r=decide (b2=v2) by rw [HB.out];simp)
   clear HB
   go_wp2_with fail
   refine fin hR ⟨bool_ret ?_,HM.out⟩
   rw [HR.out]
   by_cases hz:b2=v2
   ·rw [decide_eq_true hz,hz];simp
   ·rw [decide_eq_false hz];simpa using hz
  ·have HR:=zh (show r=false by rw [HB.out];simp [h1])
   have g1:((b1:Int) == v1)=false:=by simpa using h1
   clear HB h1
   go_wp2_with fail
   refine fin hR ⟨bool_ret ?_,HM.out⟩
   rw [HR.out]
 ·have HR:=zh (show r=false by rw [HB.out];simp [h0])
  have g0:((b0:Int) == v0)=false:=by simpa using h0
  clear HB h0
  go_wp2_with fail
  refine fin hR ⟨bool_ret ?_,HM.out⟩
  rw [HR.out]
abbrev VerBox (w:World) (vb:Nat) (v:Ver) (pv:Value):Prop:=w.heap[vb]? = some (.cells #[.int .i64 v.ma,.int .i64 v.mi,.int .i64 v.pa,pv] 45 (0,0))
set_option maxRecDepth 100000 in
set_option maxHeartbeats 4000000 in
theorem holdsfn_any (b:Bnd) (bpv:Value) (v:Ver) (pv:Value) (vb:Nat) (hb:Small b.v) (hv:Small v) (w:World) (hbp:Sl w No 9 bpv b.v.pre.length (strs b.v.pre)) (hvp:SvX w No pv v.pre.length (strs v.pre)) (hvb:VerBox w vb v pv) :
  Calls prog 168 #[.agg (BndX.cells ⟨b,bpv⟩).toArray,.pointer (some ⟨vb,0,none⟩)] w fun e w'=>e=.returned (.bool (!holdsB b v))/\Mod No w w':=by
 refine calls_hide fun R hR=>?_
 have HCM:=zh (fun (W:World) (hm:Mod No w W)=>holds_any b bpv v pv hb hv W (hbp.kn hm) (hvp.kn hm))
 obtain ⟨va,vc,rfl⟩:=hbp.len
 obtain ⟨ua,uc,rfl⟩:=hvp.len
 clear hbp hvp hb hv
 generalize holdsB b v=r at *
 obtain ⟨sg,⟨b0,b1,b2,bp⟩⟩:=b
 obtain ⟨v0,v1,v2,vp⟩:=v
 unfold VerBox BndX.cells verCs verV strV at *
 dsimp only at *
 generalize (⟨sg.toArray⟩:ByteArray)=S at *
 have HVB:=zh hvb
 clear hvb
 go_enter func168,ntmps168
 go_upto_region 1 with fail
 obtain ⟨gx,hgx⟩:∃ g,g=w.heap.size:=⟨_,rfl⟩
 rw [<- hgx]
 generalize hw1:World.alloc w _=w1
 have hx1:w1.heap[gx]? = some (.cells #[.string S,.int .i64 b0,.int .i64 b1,.int .i64 b2,.slice va bp.length vc] 255 (0,0)):=by rw [<- hw1,hgx];exact heap_alloc_new w _
 have hm1:Mod No w w1:=by rw [<- hw1];exact (Mod.refl No w).alloc _
 have hy1:=hm1.keep HVB.out (fun f=>f)
 have c0:=cell_ofA hx1 (i:=0) rfl
 have c1:=cell_ofA hx1 (i:=1) rfl
 have c2:=cell_ofA hx1 (i:=2) rfl
 have c3:=cell_ofA hx1 (i:=3) rfl
 have c4:=cell_ofA hx1 (i:=4) rfl
 have d0:=cell_ofA hy1 (i:=0) rfl
 have d1:=cell_ofA hy1 (i:=1) rfl
 have d2:=cell_ofA hy1 (i:=2) rfl
 have d3:=cell_ofA hy1 (i:=3) rfl
 have HM:=zh hm1
 have HCW:=zh (HCM.out w1 hm1)
 clear hw1 hgx hx1 hy1 hm1 HCM HVB
 go_wp2_with fail
 with_reducible refine HCW.out.mono ?_
 rintro e w2 ⟨rfl,hm2⟩
 have HM2:=zh (HM.out.trans hm2)
 clear hm2 HCW HM c0 c1 c2 c3 c4 d0 d1 d2 d3
 go_wp2_with fail
 exact fin hR ⟨rfl,HM2.out⟩
set_option maxRecDepth 100000 in
set_option maxHeartbeats 4000000 in
theorem nearfn_any (b:Bnd) (ba:Option Addr) (bc:Nat) (v:Ver) (pv:Value) (vb:Nat) (w:World) (hvb:VerBox w vb v pv) :
  Calls prog 170 #[.agg (BndX.cells ⟨b,.slice ba b.v.pre.length bc⟩).toArray,.pointer (some ⟨vb,0,none⟩)] w fun e w'=>e=.returned (.bool (nearB b v))/\Mod No w w':=by
 refine calls_hide fun R hR=>?_
 have HCM:=zh (fun (W:World)=>near_any b ba bc v pv W)
 generalize nearB b v=r at *
 obtain ⟨sg,⟨b0,b1,b2,bp⟩⟩:=b
 obtain ⟨v0,v1,v2,vp⟩:=v
 unfold VerBox BndX.cells verCs verV strV at *
 dsimp only at *
 generalize (⟨sg.toArray⟩:ByteArray)=S at *
 have HVB:=zh hvb
 clear hvb
 go_enter func170,ntmps170
 go_upto_region 1 with fail
 obtain ⟨gx,hgx⟩:∃ g,g=w.heap.size:=⟨_,rfl⟩
 rw [<- hgx]
 generalize hw1:World.alloc w _=w1
 have hx1:w1.heap[gx]? = some (.cells #[.string S,.int .i64 b0,.int .i64 b1,.int .i64 b2,.slice ba bp.length bc] 255 (0,0)):=by rw [<- hw1,hgx];exact heap_alloc_new w _
 have hm1:Mod No w w1:=by rw [<- hw1];exact (Mod.refl No w).alloc _
 have hy1:=hm1.keep HVB.out (fun f=>f)
 have c0:=cell_ofA hx1 (i:=0) rfl
 have c1:=cell_ofA hx1 (i:=1) rfl
 have c2:=cell_ofA hx1 (i:=2) rfl
 have c3:=cell_ofA hx1 (i:=3) rfl
 have c4:=cell_ofA hx1 (i:=4) rfl
 have d0:=cell_ofA hy1 (i:=0) rfl
 have d1:=cell_ofA hy1 (i:=1) rfl
 have d2:=cell_ofA hy1 (i:=2) rfl
 have d3:=cell_ofA hy1 (i:=3) rfl
 have HM:=zh hm1
 have HCW:=zh (HCM.out w1)
 clear hw1 hgx hx1 hy1 hm1 HCM HVB
 go_wp2_with fail
 with_reducible refine HCW.out.mono ?_
 rintro e w2 ⟨rfl,hm2⟩
 have HM2:=zh (HM.out.trans hm2)
 clear hm2 HCW HM c0 c1 c2 c3 c4 d0 d1 d2 d3
 go_wp2_with fail
 exact fin hR ⟨rfl,HM2.out⟩
structure BndsOk (l:List Bnd):Prop where
 few:l.length<=1000000
 each:∀ b ∈ l,Small b.v
structure SpnOk (s:Spn):Prop where
 few:s.ors.length<=1000000
 each:∀ l ∈ s.ors,BndsOk l
theorem all_not_any {α:Type} (p:α->Bool) (l:List α):(l.any fun x=>!p x) = !(l.all p):=by
 induction l with
 | nil=>rfl
 | cons x l ih=>simp [ih,Bool.not_and]
set_option maxRecDepth 100000 in
set_option maxHeartbeats 4000000 in
theorem splist_any (lv:Value) (l:List Bnd) (hl:BndsOk l) (v:Ver) (pv:Value) (vb:Nat) (hv:Small v) (w:World) (hlv:BndsAt w lv l) (hvp:SvX w No pv v.pre.length (strs v.pre)) (hvb:VerBox w vb v pv) :
  Calls prog 166 #[lv,.pointer (some ⟨vb,0,none⟩)] w fun e w'=>e=.returned (.bool (hasO v l))/\Mod No w w':=by
 refine calls_hide fun R hR=>?_
 obtain ⟨xs,rfl,hxp,hxs⟩:=hlv
 rw [List.length_map] at hxs
 have hfew:xs.length<=1000000:=by have:=hl.few;rwa [List.length_map] at this
 have HA:=zh (containsfunc_bnds 168 #[.pointer (some ⟨vb,0,none⟩)] (fun _ _=>rfl) (fun x=>!holdsB x.b v) xs hfew (fun x _=>BndX.cells_length x) lv w hxs (fun i hi W hm =>
  holdsfn_any xs[i].b xs[i].pv v pv vb (hl.each _ (List.mem_map.2 ⟨_,List.getElem_mem hi,rfl⟩)) hv W ((hxp _ (List.getElem_mem hi)).kn hm) (hvp.kn hm) (hm.keep hvb (fun f=>f))))
 have HN:=zh (fun (W1:World) (hm1:Mod No w W1)=>containsfunc_bnds 170 #[.pointer (some ⟨vb,0,none⟩)] (fun _ _=>rfl) (fun x=>nearB x.b v) xs hfew (fun x _=>BndX.cells_length x) lv W1 (hxs.kn hm1) (fun i hi W hm=>by
  obtain ⟨ba,bc,hbv⟩:=(hxp _ (List.getElem_mem hi)).len
  have h:=nearfn_any xs[i].b ba bc v pv vb W ((hm1.trans hm).keep hvb (fun f=>f))
  rw [<- hbv] at h
  exact h))
 have HE1:=zh (show (xs.any fun x=>!holdsB x.b v) = !((xs.map BndX.b).all fun b=>holdsB b v) by
  rw [all_not_any (fun x:BndX=>holdsB x.b v) xs,List.all_map];rfl)
 have HE2:=zh (show (xs.any fun x=>nearB x.b v)=((xs.map BndX.b).any fun b=>nearB b v) by rw [List.any_map];rfl)
 rw [HE1.out] at HA
 simp only [HE2.out] at HN
 have HO:=zh (show hasO v (xs.map BndX.b)=(((xs.map BndX.b).all fun b=>holdsB b v) && (v.pre.isEmpty || (xs.map BndX.b).any fun b=>nearB b v)) from rfl)
 obtain ⟨la,lc,rfl⟩:=hxs.len
 obtain ⟨ua,uc,rfl⟩:=hvp.len
 clear hxp hxs hvp HE1 HE2 hl hv hfew
 generalize ((xs.map BndX.b).all fun b=>holdsB b v)=ra at *
 generalize ((xs.map BndX.b).any fun b=>nearB b v)=rn at *
 generalize hasO v (xs.map BndX.b)=r at *
 generalize xs.length=n at *
 obtain ⟨v0,v1,v2,vp⟩:=v
 unfold VerBox at *
 dsimp only at *
 have HVB:=zh hvb
 clear hvb
 go_enter func166,ntmps166
 go_wp2_with fail
 with_reducible refine HA.out.mono ?_
 rintro e w2 ⟨rfl,hm2⟩
 have HM2:=zh hm2
 have d3:=cell_ofA (hm2.keep HVB.out (fun f=>f)) (i:=3) rfl
 have HNW:=zh (HN.out w2 hm2)
 clear hm2 HA HN HVB
 rcases ra with _ | _
 ·have HR:=zh (show r=false by rw [HO.out];rfl)
  clear HO HNW d3
  go_wp2_with fail
  refine fin hR ⟨bool_ret ?_,HM2.out⟩
  rw [HR.out]
 by_cases hp:vp=[]
 ·subst hp
  have HR:=zh (show r=true by rw [HO.out];rfl)
  clear HO HNW
  go_wp2_with fail
  refine fin hR ⟨bool_ret ?_,HM2.out⟩
  rw [HR.out]
 have hie:vp.isEmpty=false:=by simpa using hp
 have HR:=zh (show r=rn by rw [HO.out,hie];simp)
 have hl:((vp.length:Int) == 0)=false:=by have:=List.length_pos_iff.2 hp;simp;omega
 clear HO hie hp
 go_wp2_with fail
 with_reducible refine HNW.out.mono ?_
 rintro e w3 ⟨rfl,hm3⟩
 have HM3:=zh (HM2.out.trans hm3)
 clear hm3 HNW d3
 go_wp2_with fail
 refine fin hR ⟨bool_ret ?_,HM3.out⟩
 rw [HR.out]
set_option maxRecDepth 100000 in
set_option maxHeartbeats 4000000 in
theorem sphas_any (s:Spn) (ov:Value) (hs:SpnOk s) (v:Ver) (pv:Value) (hv:Small v) (w:World) (hov:OrsAt w ov s.ors) (hvp:SvX w No pv v.pre.length (strs v.pre)) :
  Calls prog 110 #[.agg #[.bool s.any,ov],verV v pv] w fun e w'=>e=.returned (.bool (hasS s v))/\Mod No w w':=by
 refine calls_hide fun R hR=>?_
 obtain ⟨any,ors⟩:=s
 obtain ⟨few,each⟩:=hs
 dsimp only at few each hov
 obtain ⟨xs,rfl,hxp,hxs⟩:=hov
 rw [List.length_map] at hxs few
 have HA:=zh (fun (W1:World) (vb:Nat) (hm1:Mod No w W1) (hvb:VerBox W1 vb v pv)=>containsfunc_ors 166 #[.pointer (some ⟨vb,0,none⟩)] (fun _ _=>rfl) (fun x=>hasO v x.l) xs few ov W1 (hxs.kn hm1) (fun i hi W hm =>
  splist_any xs[i].v xs[i].l (each _ (List.mem_map.2 ⟨_,List.getElem_mem hi,rfl⟩)) v pv vb hv W ((hxp _ (List.getElem_mem hi)).keep (hm1.trans hm) (Apart.no _ _)) (hvp.kn (hm1.trans hm)) (hm.keep hvb (fun f=>f))))
 have HE:=zh (show (xs.any fun x=>hasO v x.l)=(xs.map OrX.l).any (hasO v) by rw [List.any_map];rfl)
 simp only [HE.out] at HA
 have HO:=zh (show hasS ⟨any,xs.map OrX.l⟩ v=if any then v.pre.isEmpty else (xs.map OrX.l).any (hasO v) from rfl)
 obtain ⟨oa,oc,rfl⟩:=hxs.len
 obtain ⟨ua,uc,rfl⟩:=hvp.len
 clear hxp hxs hvp HE each hv few
 generalize (xs.map OrX.l).any (hasO v)=ra at *
 generalize hasS ⟨any,xs.map OrX.l⟩ v=r at *
 generalize xs.length=n at *
 obtain ⟨v0,v1,v2,vp⟩:=v
 unfold VerBox at *
 dsimp only at *
 unfold verV
 dsimp only
 go_enter func110,ntmps110
 go_upto_region 1 with fail
 obtain ⟨gx,hgx⟩:∃ g,g=w.heap.size:=⟨_,rfl⟩
 rw [<- hgx]
 generalize hw1:World.alloc (World.alloc w _) _=w1
 have hx1:w1.heap[gx]? = some (.cells #[.bool any,.slice oa n oc] 111 (0,0)):=by rw [<- hw1,hgx];exact heap_alloc_old _ (heap_alloc_new w _)
 have hy1:w1.heap[gx+1]? = some (.cells #[.int .i64 v0,.int .i64 v1,.int .i64 v2,.slice ua vp.length uc] 45 (0,0)):=by rw [<- hw1,hgx];exact heap_at_new _ _ (by simp)
 have hm1:Mod No w w1:=by rw [<- hw1];exact ((Mod.refl No w).alloc _).alloc _
 have c0:=cell_ofA hx1 (i:=0) rfl
 have c1:=cell_ofA hx1 (i:=1) rfl
 have d3:=cell_ofA hy1 (i:=3) rfl
 have HM:=zh hm1
 have HAW:=zh (HA.out w1 (gx+1) hm1 hy1)
 clear hw1 hgx hx1 hy1 hm1 HA
 rcases any with _ | _
 ·have HR:=zh (show r=ra by rw [HO.out];rfl)
  clear HO
  go_wp2_with fail
  with_reducible refine HAW.out.mono ?_
  rintro e w2 ⟨rfl,hm2⟩
  have HM2:=zh (HM.out.trans hm2)
  clear hm2 HAW HM c0 c1 d3
  go_wp2_with fail
  refine fin hR ⟨bool_ret ?_,HM2.out⟩
  rw [HR.out]
 ·have HR:=zh (show r=vp.isEmpty by rw [HO.out];rfl)
  clear HO HAW
  go_wp2_with fail
  refine fin hR ⟨bool_ret ?_,HM.out⟩
  rw [HR.out]
  cases vp with
  | nil=>rfl
  | cons a l=>simp;omega
set_option maxRecDepth 100000 in
set_option maxHeartbeats 4000000 in
theorem indexfunc_nds (g:Nat) (lb:Array Value) (eg:∀ args w,(callFunc g args).run prog w=.ok (.enter g args) w) (p:NdX->Bool) (xs:List NdX) (hx:xs.length<=1000000) (hc:∀ x ∈ xs,(NdX.cells x).length=4) (v:Value) (w:World) (hv:Sl w No 113 v xs.length (xs.flatMap NdX.cells))
  (hp:∀ i (hi:i < xs.length),∀ W,Mod No w W->Calls prog g (#[.agg (NdX.cells xs[i]).toArray]++lb) W fun e w'=>e=.returned (.bool (p xs[i]))/\Mod No W w') :
  Calls prog 270 #[v,.func (.func g) #[] lb] w fun e w'=>e=.returned (.int .i64 (findI p xs))/\Mod No w w':=by
 refine calls_hide fun R hR=>?_
 obtain ⟨va,vc,rfl⟩:=hv.len
 have HV:=zh hv
 have HP:=zh hp
 have HCL:=zh hc
 clear hv hp hc
 go_enter func270,ntmps270
 go_wp2_with fail
 go_loopw [8] (fun q wr=>∃ k:Nat,k<=xs.length/\q=.int .i64 k/\Mod No w wr/\∀ i (hi:i < xs.length),i < k->p xs[i]=false) (fun q _=>xs.length - (intOf q).toNat)
 case atStart=>exact ⟨0,by omega,rfl,Mod.refl _ _,fun i _ hi=>absurd hi (by omega)⟩
 case round =>
  obtain ⟨k,hk,rfl,hmod,hno⟩:=hrel
  have HM:=zh hmod
  have HNO:=zh hno
  have hk0:(0:Int)<=(k:Int):=Int.natCast_nonneg _
  clear hmod hno
  by_cases hlt:k < xs.length
  ·have hk1:(k:Int) < (xs.length:Int):=by omega
   obtain ⟨b,o,c,hvs,_⟩:=HV.out.shape (by omega)
   cases hvs
   have hrg:=HM.out.rangeAt (Sl.atM HCL.out HV.out hlt) (fun f=>f)
   have HRG:=zh hrg
   have HCK:=zh (HCL.out _ (List.getElem_mem hlt))
   have HC:=zh (HP.out k hlt _ HM.out)
   have HN:=zh (show p xs[k]=false->∀ i (hi:i < xs.length),i < k+1->p xs[i]=false from fun h i hi hik=>by
    rcases Nat.lt_or_ge i k with h3 | h3
    ·exact HNO.out i hi h3
    ·obtain rfl:i=k:=by omega
     exact h)
   have HH:=zh (show p xs[k]=true->findI p xs=(k:Int) from fun h=>findI_hit hlt HNO.out h)
   clear HNO hrg
   generalize NdX.cells xs[k]=cs at *
   go_wp2_with (refine wpList_load_mid rfl 113 _ rfl b (o+k*4) rfl cs _ HRG.out (underlying113) rfl (by rw [HCK.out];kernel_rfl) ?_)
   with_reducible refine HC.out.mono ?_
   rintro e w2 ⟨rfl,hm2⟩
   have HM2:=zh (HM.out.trans hm2)
   clear hm2 HC HRG HCK
   generalize p xs[k]=pk at *
   rcases pk with _ | _
   ·go_wp2_with fail
    exact ⟨⟨k+1,by omega,rfl,HM2.out,HN.out (by trivial)⟩,by show xs.length - ((k:Int)+1).toNat < xs.length - (k:Int).toNat;omega⟩
   ·have hf:=HH.out (by trivial)
    go_wp2_with fail
    refine fin hR ⟨?_,HM2.out⟩
    rw [hf]
    rfl
  ·go_wp2_with fail
   refine fin hR ⟨?_,HM.out⟩
   rw [findI_none (p:=p) (l:=xs) (fun i hi=>HNO.out i hi (by omega))]
   rfl
theorem bytes_of_toList {G:ByteArray} {l:List UInt8} (h:G.toList=l):G=⟨l.toArray⟩:=by
 rw [<- h,ByteArray.toList_eq]
set_option maxRecDepth 100000 in
theorem hasfn_any (x:NdX) (oa:Option Addr) (om oc:Nat) (hov:x.ov=.slice oa om oc) (name:List UInt8) (nb:Nat) (w:World) (hn:w.heap[nb]? = some (.cells #[strV name] 9 (0,0))) :
  Calls prog 222 #[.agg (NdX.cells x).toArray,.pointer (some ⟨nb,0,none⟩)] w fun e w'=>e=.returned (.bool (decide (x.n.name=name)))/\Mod No w w':=by
 refine calls_hide fun R hR=>?_
 unfold NdX.cells
 rw [hov]
 obtain ⟨⟨nm,⟨an,os⟩,tx⟩,ov⟩:=x
 dsimp only at *
 have h1:=str_list nm
 have h2:=str_list name
 unfold strV at *
 generalize (⟨nm.toArray⟩:ByteArray)=A1 at *
 generalize (⟨name.toArray⟩:ByteArray)=A2 at *
 generalize (⟨tx.toArray⟩:ByteArray)=A3 at *
 have HN:=zh hn
 clear hn
 go_enter func222,ntmps222
 go_upto_region 1 with fail
 obtain ⟨gx,hgx⟩:∃ g,g=w.heap.size:=⟨_,rfl⟩
 rw [<- hgx]
 generalize hw1:World.alloc w _=w1
 have hx1:w1.heap[gx]? = some (.cells #[.string A1,.bool an,.slice oa om oc,.string A3] 113 (0,0)):=by rw [<- hw1,hgx];exact heap_alloc_new w _
 have c0:w1.cell? ⟨nb,0,none⟩=some (.string A2):=cell_ofA (show w1.heap[nb]? = _ by rw [<- hw1];exact heap_alloc_old _ HN.out) rfl
 have c1:w1.cell? ⟨gx,0,none⟩=some (.string A1):=cell_ofA hx1 rfl
 have HM:=zh (show Mod No w w1 by rw [<- hw1];exact (Mod.refl No w).alloc _)
 clear hw1 hgx hx1
 go_wp2_with fail
 refine fin hR ⟨bool_ret ?_,HM.out⟩
 by_cases hh:nm=name
 ·rw [decide_eq_true hh,hh];simp
 ·rw [decide_eq_false hh];simpa using hh
set_option maxRecDepth 100000 in
theorem containsfunc_nds (g:Nat) (lb:Array Value) (eg:∀ args w,(callFunc g args).run prog w=.ok (.enter g args) w) (p:NdX->Bool) (xs:List NdX) (hx:xs.length<=1000000) (v:Value) (w:World) (hv:Sl w No 113 v xs.length (xs.flatMap NdX.cells))
  (hp:∀ i (hi:i < xs.length),∀ W,Mod No w W->Calls prog g (#[.agg (NdX.cells xs[i]).toArray]++lb) W fun e w'=>e=.returned (.bool (p xs[i]))/\Mod No W w') :
  Calls prog 221 #[v,.func (.func g) #[] lb] w fun e w'=>e=.returned (.bool (xs.any p))/\Mod No w w':=by
 refine calls_hide fun R hR=>?_
 have HC:=zh (indexfunc_nds g lb eg p xs hx (fun x _=>NdX.cells_length x) v w hv hp)
 obtain ⟨va,vc,rfl⟩:=hv.len
 have HA:=zh (findI_any p xs)
 clear hv hp
 go_enter func221,ntmps221
 go_wp2_with fail
 with_reducible refine HC.out.mono ?_
 rintro e w2 ⟨rfl,hm2⟩
 have HM2:=zh hm2
 clear hm2 HC
 generalize findI p xs=r at *
 go_wp2_with fail
 refine fin hR ⟨bool_ret ?_,HM2.out⟩
 exact HA.out
set_option maxRecDepth 100000 in
theorem has_any (xs:List NdX) (hx:xs.length<=1000000) (hov:∀ x ∈ xs,∃ oa om oc,x.ov=.slice oa om oc) (name:List UInt8) (v:Value) (w:World) (hv:Sl w No 113 v xs.length (xs.flatMap NdX.cells)) :
  Calls prog 160 #[v,strV name] w fun e w'=>e=.returned (.bool (xs.any fun x=>decide (x.n.name=name)))/\Mod No w w':=by
 refine calls_hide fun R hR=>?_
 have HC:=zh (fun W hvW (hn:W.heap[w.heap.size]? = some (.cells #[strV name] 9 (0,0)))=>containsfunc_nds 222 #[.pointer (some ⟨w.heap.size,0,none⟩)] (fun _ _=>rfl) (fun x=>decide (x.n.name=name)) xs hx v W hvW (fun i hi W' hm=>by
  obtain ⟨oa,om,oc,h⟩:=hov _ (List.getElem_mem hi)
  exact hasfn_any xs[i] oa om oc h name w.heap.size W' (hm.keep hn (fun f=>f))))
 have HV:=zh (Sl.keep (S:=No) hv ((Mod.refl No w).alloc (.cells #[strV name] 9)) (fun _ _ _ f=>f.elim))
 have HN:=zh (heap_alloc_new w (.cells #[strV name] 9))
 obtain ⟨va,vc,rfl⟩:=hv.len
 clear hv hov
 unfold strV at *
 generalize (⟨name.toArray⟩:ByteArray)=A2 at *
 generalize (xs.any fun x=>decide (x.n.name=name))=r at *
 go_enter func160,ntmps160
 go_wp2_with fail
 with_reducible refine (HC.out _ HV.out HN.out).mono ?_
 rintro e w2 ⟨rfl,hm2⟩
 have HM2:=zh (((Mod.refl No w).alloc (.cells #[.string A2] 9)).trans hm2)
 clear hm2 HC HV HN
 go_wp2_with fail
 exact fin hR ⟨rfl,HM2.out⟩
theorem wrap_nat {k:Nat} (h:k<=1000000000):wrap64 (k:Int)=(k:Int):=by
 unfold wrap64
 omega
theorem lines_cases (l:List UInt8):∃ k,(splitC 10 l).length=k+1/\∃ last,(splitC 10 l)[k]? = some last ∧
  (last=[]->k=(linesL l).length/\strs (linesL l)=((strs (splitC 10 l)).drop 0).take k)/\(last ≠ []->(linesL l).length=k+1/\strs (linesL l)=strs (splitC 10 l)):=by
 have hne:=splitC_ne 10 l
 unfold linesL
 generalize splitC 10 l=ps at *
 have e:=List.dropLast_concat_getLast hne
 obtain ⟨d,z,rfl⟩:∃ d z,ps=d++[z]:=⟨_,_,e.symm⟩
 refine ⟨d.length,by simp,z,by simp,fun hz=>?_,fun hz=>?_⟩
 ·subst hz
  rw [if_pos (by simp)]
  refine ⟨by simp,?_⟩
  rw [List.dropLast_concat,List.drop_zero]
  simp [strs]
 ·rw [if_neg (by simpa using hz)]
  exact ⟨by simp,rfl⟩
set_option maxRecDepth 100000 in
set_option maxHeartbeats 4000000 in
theorem lines_any (l:List UInt8) (hl:l.length<=1000000) (w:World) (hgl:Gl w) :
  Calls prog 98 #[strV l] w fun e w'=>∃ v,e=.returned v/\Sl w' No 9 v (linesL l).length (strs (linesL l))/\Mod No w w':=by
 refine calls_hide fun R hR=>?_
 have HSP:=zh (show Calls prog 106 #[strV l,.string ⟨#[10]⟩] w fun e w'=>∃ v,e=.returned v/\w'.ownsRow w.heap.size 9 1 v (splitC 10 l).length (strs (splitC 10 l))/\Mod No w w' from split_any 10 l hl w hgl)
 have HL:=zh (lines_cases l)
 clear hgl
 unfold strV at *
 generalize (⟨l.toArray⟩:ByteArray)=Z at *
 obtain ⟨k,hk,last,hlast,h1,h2⟩:=HL.out
 have hkl:k<=1000000:=by
  have:=splitC_length_le 10 l
  omega
 rw [hk] at HSP
 have hcl:(strs (splitC 10 l))[k]? = some (.string ⟨last.toArray⟩):=by
  rw [strs,List.getElem?_map,hlast];rfl
 have H1:=zh h1
 have H2:=zh h2
 have hsl:(strs (splitC 10 l)).length=k+1:=by rw [strs_length,hk]
 clear HL h1 h2 hlast hk
 generalize strs (splitC 10 l)=cs at *
 go_enter func98,ntmps98
 go_wp2_with fail
 with_reducible refine HSP.out.mono ?_
 rintro e w1 ⟨v,rfl,hown,hm⟩
 have HS:=zh (Sl.of_own (X:=No) hown (fun _ _ f=>f))
 obtain ⟨gb,go,gc,rfl,hgc,hgm,_⟩:=HS.out.shape (Nat.succ_pos k)
 have hcell:=Sl.cell HS.out (i:=k) (by omega)
 rw [hcl] at hcell
 dsimp only at hcell
 have HM:=zh hm
 have hk0:(0:Int)<=(k:Int):=Int.natCast_nonneg _
 have hgc':(k:Int)<=(gc:Int):=by omega
 have hwk:=wrap_nat (k:=k) (by omega)
 clear hm hown HSP
 have hT:=str_list last
 by_cases hn:last=[]
 ·subst hn
  have HP:=zh (Sl.part HS.out hsl 0 k gc (by omega) (by omega) hgm)
  have H3:=zh (H1.out rfl)
  clear H1 H2
  go_wp2_with fail
  refine fin hR ⟨_,rfl,?_,HM.out⟩
  rw [<- H3.out.1,H3.out.2]
  exact HP.out
 ·have hne:(⟨last.toArray⟩:ByteArray).toList.isEmpty=false:=by rw [hT];simpa using hn
  have hne2:last.isEmpty=false:=by simpa using hn
  have H3:=zh (H2.out hn)
  clear H1 H2
  go_wp2_with fail
  refine fin hR ⟨_,rfl,?_,HM.out⟩
  rw [H3.out.1,H3.out.2]
  exact HS.out
set_option maxRecDepth 100000 in
theorem silent_any (l:List UInt8) (w:World):Calls prog 99 #[strV l] w fun e w'=>e=.returned (.bool (silentB l))/\w'=w:=by
 refine calls_hide fun R hR=>?_
 have HX:=zh (run_at l)
 have hT:=str_list l
 unfold strV at *
 cases l with
 | nil =>
  clear HX
  go_enter func99,ntmps99
  go_wp2_with fail
  exact fin hR ⟨rfl,rfl⟩
 | cons c r =>
  have hx0:∀ W:World,(Instr.index 9 (.string ⟨(c :: r).toArray⟩) (.int .i64 0)).run prog W=.ok (.int .u8 (c.toNat:Int)) W:=fun W=>HX.out 0 (by simp) W
  have he:(⟨(c :: r).toArray⟩:ByteArray).toList.isEmpty=false:=by rw [hT];rfl
  generalize (⟨(c :: r).toArray⟩:ByteArray)=Z at *
  clear HX
  go_enter func99,ntmps99
  by_cases hc:c=35
  ·subst hc
   have hB:=zh (show silentB (35 :: r)=true from rfl)
   go_wp2_with fail
   exact fin hR ⟨(by rw [hB.out];try rfl),rfl⟩
  ·have hB:=zh (show silentB (c :: r)=false by unfold silentB;simp [hc])
   have hn:((c.toNat:Int) == 35)=false:=by
    have:c.toNat ≠ 35:=fun e=>hc (by rw [<- UInt8.toNat_inj];exact e)
    simp;omega
   generalize (c.toNat:Int)=z at *
   go_wp2_with fail
   exact fin hR ⟨(by rw [hB.out];try rfl),rfl⟩
set_option maxRecDepth 100000 in
set_option maxHeartbeats 4000000 in
theorem indexfunc_pns (g:Nat) (lb:Array Value) (eg:∀ args w,(callFunc g args).run prog w=.ok (.enter g args) w) (p:PnX->Bool) (xs:List PnX) (hx:xs.length<=1000000) (hc:∀ x ∈ xs,(PnX.cells x).length=37) (v:Value) (w:World) (hv:Sl w No 49 v xs.length (xs.flatMap PnX.cells))
  (hp:∀ i (hi:i < xs.length),∀ W,Mod No w W->Calls prog g (#[.agg (PnX.cells xs[i]).toArray]++lb) W fun e w'=>e=.returned (.bool (p xs[i]))/\Mod No W w') :
  Calls prog 112 #[v,.func (.func g) #[] lb] w fun e w'=>e=.returned (.int .i64 (findI p xs))/\Mod No w w':=by
 refine calls_hide fun R hR=>?_
 obtain ⟨va,vc,rfl⟩:=hv.len
 have HV:=zh hv
 have HP:=zh hp
 have HCL:=zh hc
 clear hv hp hc
 go_enter func112,ntmps112
 go_wp2_with fail
 go_loopw [8] (fun q wr=>∃ k:Nat,k<=xs.length/\q=.int .i64 k/\Mod No w wr/\∀ i (hi:i < xs.length),i < k->p xs[i]=false) (fun q _=>xs.length - (intOf q).toNat)
 case atStart=>exact ⟨0,by omega,rfl,Mod.refl _ _,fun i _ hi=>absurd hi (by omega)⟩
 case round =>
  obtain ⟨k,hk,rfl,hmod,hno⟩:=hrel
  have HM:=zh hmod
  have HNO:=zh hno
  have hk0:(0:Int)<=(k:Int):=Int.natCast_nonneg _
  clear hmod hno
  by_cases hlt:k < xs.length
  ·have hk1:(k:Int) < (xs.length:Int):=by omega
   obtain ⟨b,o,c,hvs,_⟩:=HV.out.shape (by omega)
   cases hvs
   have hrg:=HM.out.rangeAt (Sl.atM HCL.out HV.out hlt) (fun f=>f)
   have HRG:=zh hrg
   have HCK:=zh (HCL.out _ (List.getElem_mem hlt))
   have HC:=zh (HP.out k hlt _ HM.out)
   have HN:=zh (show p xs[k]=false->∀ i (hi:i < xs.length),i < k+1->p xs[i]=false from fun h i hi hik=>by
    rcases Nat.lt_or_ge i k with h3 | h3
    ·exact HNO.out i hi h3
    ·obtain rfl:i=k:=by omega
     exact h)
   have HH:=zh (show p xs[k]=true->findI p xs=(k:Int) from fun h=>findI_hit hlt HNO.out h)
   clear HNO hrg
   generalize PnX.cells xs[k]=cs at *
   go_wp2_with (refine wpList_load_mid rfl 49 _ rfl b (o+k*37) rfl cs _ HRG.out (underlying49) rfl (by rw [HCK.out];kernel_rfl) ?_)
   with_reducible refine HC.out.mono ?_
   rintro e w2 ⟨rfl,hm2⟩
   have HM2:=zh (HM.out.trans hm2)
   clear hm2 HC HRG HCK
   generalize p xs[k]=pk at *
   rcases pk with _ | _
   ·go_wp2_with fail
    exact ⟨⟨k+1,by omega,rfl,HM2.out,HN.out (by trivial)⟩,by show xs.length - ((k:Int)+1).toNat < xs.length - (k:Int).toNat;omega⟩
   ·have hf:=HH.out (by trivial)
    go_wp2_with fail
    refine fin hR ⟨?_,HM2.out⟩
    rw [hf]
    rfl
  ·go_wp2_with fail
   refine fin hR ⟨?_,HM.out⟩
   rw [findI_none (p:=p) (l:=xs) (fun i hi=>HNO.out i hi (by omega))]
   rfl
set_option maxRecDepth 100000 in
theorem containsfunc_pns (g:Nat) (lb:Array Value) (eg:∀ args w,(callFunc g args).run prog w=.ok (.enter g args) w) (p:PnX->Bool) (xs:List PnX) (hx:xs.length<=1000000) (hc:∀ x ∈ xs,(PnX.cells x).length=37) (v:Value) (w:World) (hv:Sl w No 49 v xs.length (xs.flatMap PnX.cells))
  (hp:∀ i (hi:i < xs.length),∀ W,Mod No w W->Calls prog g (#[.agg (PnX.cells xs[i]).toArray]++lb) W fun e w'=>e=.returned (.bool (p xs[i]))/\Mod No W w') :
  Calls prog 49 #[v,.func (.func g) #[] lb] w fun e w'=>e=.returned (.bool (xs.any p))/\Mod No w w':=by
 refine calls_hide fun R hR=>?_
 have HC:=zh (indexfunc_pns g lb eg p xs hx hc v w hv hp)
 obtain ⟨va,vc,rfl⟩:=hv.len
 have HA:=zh (findI_any p xs)
 clear hv hp
 go_enter func49,ntmps49
 go_wp2_with fail
 with_reducible refine HC.out.mono ?_
 rintro e w2 ⟨rfl,hm2⟩
 have HM2:=zh hm2
 clear hm2 HC
 generalize findI p xs=r at *
 go_wp2_with fail
 refine fin hR ⟨bool_ret ?_,HM2.out⟩
 exact HA.out
structure PnS (w:World) (x:PnX):Prop where
 sum:x.p.sum.length=32
 small:Small x.p.v
 pre:SvX w No x.pv x.p.v.pre.length (strs x.p.v.pre)
theorem PnS.keep {w w':World} {x:PnX} (h:PnS w x) (hm:Mod No w w'):PnS w' x:=⟨h.sum,h.small,h.pre.kn hm⟩
abbrev NdBox (w:World) (nb:Nat) (x:NdX):Prop:=w.heap[nb]? = some (.cells (NdX.cells x).toArray 113 (0,0))
set_option maxRecDepth 100000 in
set_option maxHeartbeats 4000000 in
theorem metfn_any (x:PnX) (n:NdX) (nb:Nat) (w:World) (hx:PnS w x) (hn:SpnOk n.n.span) (hov:OrsAt w n.ov n.n.span.ors) (hnb:NdBox w nb n) :
  Calls prog 109 #[.agg (PnX.cells x).toArray,.pointer (some ⟨nb,0,none⟩)] w fun e w'=>e=.returned (.bool (decide (x.p.name=n.n.name) && hasS n.n.span x.p.v))/\Mod No w w':=by
 refine calls_hide fun R hR=>?_
 have HCM:=zh (fun (W:World) (hm:Mod No w W)=>sphas_any n.n.span n.ov hn x.p.v x.pv hx.small W (hov.keep hm (Apart.no _ _)) (hx.pre.kn hm))
 have HC:=zh (show PnX.cells x=strV x.p.name :: (verCs x.p.v x.pv++bv x.p.sum) from rfl)
 obtain ⟨xs,hx1,hx2,hx3⟩:=hov
 obtain ⟨oa,oc,hno⟩:=hx3.len
 obtain ⟨ua,uc,hup⟩:=hx.pre.len
 have HL:=zh (PnX.cells_length x hx.sum)
 have HNB:=zh hnb
 clear hx hn hx1 hx2 hx3 hnb xs
 have hT1:=str_list x.p.name
 have hT2:=str_list n.n.name
 generalize PnX.cells x=cs at *
 generalize hasS n.n.span x.p.v=r at *
 obtain ⟨⟨nm,⟨v0,v1,v2,vp⟩,sm⟩,pv⟩:=x
 obtain ⟨⟨nn,⟨an,os⟩,nt⟩,nov⟩:=n
 dsimp only at *
 subst hno hup
 generalize os.length=om at *
 unfold NdBox NdX.cells strV verCs verV at *
 dsimp only at *
 generalize (⟨nm.toArray⟩:ByteArray)=A1 at *
 generalize (⟨nn.toArray⟩:ByteArray)=A2 at *
 generalize (⟨nt.toArray⟩:ByteArray)=A3 at *
 go_enter func109,ntmps109
 go_upto_region 1 with fail
 obtain ⟨gx,hgx⟩:∃ g,g=w.heap.size:=⟨_,rfl⟩
 rw [<- hgx]
 generalize hw1:World.alloc w _=w1
 have hx1:w1.heap[gx]? = some (.cells cs.toArray 49 (0,0)):=by rw [<- hw1,hgx];exact heap_alloc_new w _
 have hm1:Mod No w w1:=by rw [<- hw1];exact (Mod.refl No w).alloc _
 have hn1:=hm1.keep HNB.out (fun f=>f)
 have n0:=cell_ofA hn1 (i:=0) rfl
 have n1:=cell_ofA hn1 (i:=1) rfl
 have n2:=cell_ofA hn1 (i:=2) rfl
 have c0:w1.cell? ⟨gx,0,none⟩=some (.string A1):=cell_of hx1 (by rw [HC.out];rfl)
 have c1:w1.cell? ⟨gx,1,none⟩=some (.int .i64 v0):=cell_of hx1 (by rw [HC.out];rfl)
 have c2:w1.cell? ⟨gx,2,none⟩=some (.int .i64 v1):=cell_of hx1 (by rw [HC.out];rfl)
 have c3:w1.cell? ⟨gx,3,none⟩=some (.int .i64 v2):=cell_of hx1 (by rw [HC.out];rfl)
 have c4:w1.cell? ⟨gx,4,none⟩=some (.slice ua vp.length uc):=cell_of hx1 (by rw [HC.out];rfl)
 have HM:=zh hm1
 have HCW:=zh (HCM.out w1 hm1)
 clear hw1 hgx hx1 hm1 HCM HC HL hn1 HNB
 by_cases hh:nm=nn
 ·subst hh
  have h12:A1=A2:=by
   rw [bytes_of_toList hT1,bytes_of_toList hT2]
  subst h12
  clear hT1 hT2
  go_wp2_with fail
  with_reducible refine HCW.out.mono ?_
  rintro e w2 ⟨rfl,hm2⟩
  have HM2:=zh (HM.out.trans hm2)
  clear hm2 HCW HM
  go_wp2_with fail
  refine fin hR ⟨bool_ret ?_,HM2.out⟩
  simp
 ·have he:(A1.toList == A2.toList)=false:=by rw [hT1,hT2];simpa using hh
  have hF:decide (nm=nn)=false:=decide_eq_false hh
  rw [hF] at hR
  clear hT1 hT2
  go_wp2_with fail
  exact fin hR ⟨rfl,HM.out⟩
set_option maxRecDepth 100000 in
set_option maxHeartbeats 4000000 in
theorem met_any (n:NdX) (xs:List PnX) (hx:xs.length<=1000000) (v:Value) (w:World) (hn:SpnOk n.n.span) (hov:OrsAt w n.ov n.n.span.ors) (hok:∀ x ∈ xs,PnS w x) (hv:Sl w No 49 v xs.length (xs.flatMap PnX.cells)) :
  Calls prog 46 #[.agg (NdX.cells n).toArray,v] w fun e w'=>e=.returned (.bool (metB (xs.map PnX.p) n.n))/\Mod No w w':=by
 refine calls_hide fun R hR=>?_
 have HA:=zh (fun (W1:World) (nb:Nat) (hm1:Mod No w W1) (hnb:NdBox W1 nb n)=>containsfunc_pns 109 #[.pointer (some ⟨nb,0,none⟩)] (fun _ _=>rfl) (fun x=>decide (x.p.name=n.n.name) && hasS n.n.span x.p.v) xs hx (fun x hx=>PnX.cells_length x (hok x hx).sum) v W1 (hv.kn hm1) (fun i hi W hm =>
  metfn_any xs[i] n nb W ((hok _ (List.getElem_mem hi)).keep (hm1.trans hm)) hn (hov.keep (hm1.trans hm) (Apart.no _ _)) (hm.keep hnb (fun f=>f))))
 have HE:=zh (show (xs.any fun x=>decide (x.p.name=n.n.name) && hasS n.n.span x.p.v)=metB (xs.map PnX.p) n.n by unfold metB;rw [List.any_map];rfl)
 simp only [HE.out] at HA
 obtain ⟨zs,hx1,hx2,hx3⟩:=hov
 obtain ⟨oa,oc,hno⟩:=hx3.len
 obtain ⟨va,vc,rfl⟩:=hv.len
 clear hv hok hn hx1 hx2 hx3 HE zs
 generalize metB (xs.map PnX.p) n.n=r at *
 generalize xs.length=m at *
 obtain ⟨⟨nn,⟨an,os⟩,nt⟩,nov⟩:=n
 dsimp only at *
 subst hno
 generalize os.length=om at *
 unfold NdBox NdX.cells strV at *
 dsimp only at *
 generalize (⟨nn.toArray⟩:ByteArray)=A2 at *
 generalize (⟨nt.toArray⟩:ByteArray)=A3 at *
 go_enter func46,ntmps46
 go_upto_region 1 with fail
 obtain ⟨gx,hgx⟩:∃ g,g=w.heap.size:=⟨_,rfl⟩
 rw [<- hgx]
 generalize hw1:World.alloc w _=w1
 have hm1:Mod No w w1:=by rw [<- hw1];exact (Mod.refl No w).alloc _
 have HAW:=zh (HA.out w1 gx hm1 (by rw [<- hw1,hgx];exact heap_alloc_new w _))
 have HM:=zh hm1
 clear hw1 hgx hm1 HA
 go_wp2_with fail
 with_reducible refine HAW.out.mono ?_
 rintro e w2 ⟨rfl,hm2⟩
 have HM2:=zh (HM.out.trans hm2)
 clear hm2 HAW HM
 go_wp2_with fail
 exact fin hR ⟨rfl,HM2.out⟩
end Go.Proofs.YtmppeipgjcjdkaaGreatDoor
