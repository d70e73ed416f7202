/-
  Layers 0 to 14: helps of the laws of indexes. No statement is proved here; no condition.
-/
import Derived.Test.YtgiigemfbebcgaaGreatDoorT02
import Derived.Test.YtgiigemfbebcgaaGreatDoorT11
import Derived.Test.YtgiigemfbebcgaaGreatDoorT03
import Derived.Test.YtgiigemfbebcgaaGreatDoorT09
import Derived.Test.YtgiigemfbebcgaaGreatDoorT07
import Derived.Test.YtgiigemfbebcgaaGreatDoorT01
namespace Go.Proofs.YtgiigemfbebcgaaGreatDoor
open _root_.Go.Proofs.Tryz
open Go.RowKit
theorem own_alloc {w:World} {e:TypeId} {xs:List Value} (hn:xs.length<=maxLen):(w.alloc (.cells xs.toArray e)).ownsRow w.heap.size e 1 (.slice (some ⟨w.heap.size,0,none⟩) xs.length xs.length) xs.length xs :=
 ⟨by simp,.inr ⟨w.heap.size,_,_,rfl,Nat.le_refl _,heap_alloc_new w _,Nat.le_refl _,hn,by simp,by simp⟩⟩
theorem Sl.cellN {X:Nat->Prop} {w:World} {e:TypeId} {b o n c:Nat} {xs:List Value} (h:Sl w X e (.slice (some ⟨b,o,none⟩) n c) n xs) {i:Nat} (hi:i < xs.length):w.cell? ⟨b,o+i,none⟩=some xs[i]:=by
 rw [Sl.cell h hi,List.getElem?_eq_getElem hi]
def SvX (w:World) (X:Nat->Prop) (v:Value) (n:Nat) (xs:List Value):Prop:=(∃ a c,v=.slice a n c)/\((n=0/\xs=[])\/∃ e,Sl w X e v n xs)
theorem SvX.of {w:World} {X:Nat->Prop} {e:TypeId} {v:Value} {n:Nat} {xs:List Value} (h:Sl w X e v n xs):SvX w X v n xs:=⟨h.len,.inr ⟨e,h⟩⟩
theorem SvX.len {w:World} {X:Nat->Prop} {v:Value} {n:Nat} {xs:List Value} (h:SvX w X v n xs):∃ a c,v=.slice a n c:=h.1
theorem SvX.get {w:World} {X:Nat->Prop} {v:Value} {n:Nat} {xs:List Value} (h:SvX w X v n xs) (hn:0 < n):∃ e,Sl w X e v n xs:=by
 rcases h.2 with ⟨h0,_⟩ | h
 ·omega
 ·exact h
theorem SvX.shape {w:World} {X:Nat->Prop} {v:Value} {n:Nat} {xs:List Value} (h:SvX w X v n xs) (hn:0 < n):∃ blk o c,v=.slice (some ⟨blk,o,none⟩) n c/\n<=c/\c<=maxLen/\¬ X blk:=by
 obtain ⟨e,h⟩:=h.get hn
 exact h.shape hn
theorem SvX.cellN {w:World} {X:Nat->Prop} {b o n c:Nat} {xs:List Value} (h:SvX w X (.slice (some ⟨b,o,none⟩) n c) n xs) {i:Nat} (hi:i < xs.length):w.cell? ⟨b,o+i,none⟩=some xs[i]:=by
 rcases h.2 with ⟨_,h0⟩ | ⟨e,h⟩
 ·subst h0;cases hi
 ·exact h.cellN hi
theorem SvX.keep {S X:Nat->Prop} {w w':World} {v:Value} {n:Nat} {xs:List Value} (h:SvX w X v n xs) (hm:Mod S w w') (hs:∀ (k:Nat) (_:Array Value) (_:Nat × Nat),S k->¬ X k->False):SvX w' X v n xs :=
 ⟨h.1,h.2.imp id fun ⟨e,h⟩=>⟨e,h.keep hm fun k cur fz a b=>(hs k cur fz a b).elim⟩⟩
theorem SvX.kn {X:Nat → Prop} {w w':World} {v:Value} {n:Nat} {xs:List Value} (h:SvX w X v n xs) (hm:Mod No w w'):SvX w' X v n xs:=h.keep hm (fun _ _ _ f=>f.elim)
theorem SvX.shrink {X Y:Nat->Prop} {w:World} {v:Value} {n:Nat} {xs:List Value} (h:SvX w X v n xs) (hy:∀ k,k < w.heap.size->Y k->X k):SvX w Y v n xs :=
 ⟨h.1,h.2.imp id fun ⟨e,h⟩=>⟨e,h.shrink hy⟩⟩
theorem SvX.avoid {X:Nat->Prop} {w:World} {v:Value} {n:Nat} {xs:List Value} (h:SvX w X v n xs):SvX w (fun q=>X q\/w.heap.size<=q) v n xs :=
 ⟨h.1,h.2.imp id fun ⟨e,h⟩=>⟨e,h.avoid⟩⟩
theorem SvX.lenle {w:World} {X:Nat->Prop} {v:Value} {n:Nat} {xs:List Value} (h:SvX w X v n xs):n<=9223372036854775807:=by
 rcases Nat.eq_zero_or_pos n with h0 | h0
 ·omega
 ·obtain ⟨_,_,c,_,h1,h2,_⟩:=h.shape h0
  unfold maxLen at h2
  omega
theorem orI_hit:∀ {xs:List Int} {k:Nat} (hk:k < xs.length),(∀ i (hi:i < xs.length),i < k->xs[i]=0)->xs[k] ≠ 0->orI xs=xs[k]
 | x :: xs,0,_,_,h2=>if_neg h2
 | x :: xs,k+1,hk,h,h2=>by
  have h0:x=0:=h 0 (by simp) (by omega)
  rw [orI,if_pos h0]
  exact orI_hit (k:=k) (by simpa using hk) (fun i hi hik=>h (i+1) (by simpa using hi) (by omega)) h2
theorem orI_none:∀ {xs:List Int},(∀ i (hi:i < xs.length),xs[i]=0)->orI xs=0
 | [],_=>rfl
 | x :: xs,h=>by
  have h0:x=0:=h 0 (by simp)
  rw [orI,if_pos h0]
  exact orI_none fun i hi=>h (i+1) (by simpa using hi)
def ints (xs:List Int):List Value:=xs.map (Value.int .i64)
theorem ints_length (xs:List Int):(ints xs).length=xs.length:=by simp [ints]
set_option maxRecDepth 100000 in
set_option maxHeartbeats 4000000 in
theorem or_any (xs:List Int) (hx:xs.length<=1000) (v:Value) (w:World) (hv:Sl w No 3 v xs.length (ints xs)) :
  Calls prog 92 #[v] w fun e w'=>e=.returned (.int .i64 (orI xs))/\w'=w:=by
 refine calls_hide fun R hR=>?_
 obtain ⟨va,vc,rfl⟩:=hv.len
 have HV:=zh hv
 clear hv
 go_enter func92,ntmps92
 go_wp2_with fail
 go_loopw [8] (fun q wr=>∃ k:Nat,k<=xs.length/\q=.int .i64 k/\wr=w/\∀ i (hi:i < xs.length),i < k->xs[i]=0) (fun q _=>xs.length - (intOf q).toNat)
 case atStart=>exact ⟨0,by omega,rfl,rfl,fun i _ hi=>absurd hi (by omega)⟩
 case round =>
  obtain ⟨k,hk,rfl,rfl,hno⟩:=hrel
  have HNO:=zh hno
  have hk0:(0:Int)<=(k:Int):=Int.natCast_nonneg _
  clear hno
  by_cases hlt:k < xs.length
  ·have hk1:(k:Int) < (xs.length:Int):=by omega
   obtain ⟨b,o,c,hvs,_⟩:=HV.out.shape (by omega)
   cases hvs
   have hcell:=HV.out.cellN (i:=k) (by rw [ints_length];exact hlt)
   rw [show (ints xs)[k]'(by rw [ints_length];exact hlt)=.int .i64 xs[k] from by simp [ints]] at hcell
   by_cases h0:xs[k]=0
   ·have HN:=zh (show ∀ i (hi:i < xs.length),i < k+1->xs[i]=0 from fun i hi hik=>by
     rcases Nat.lt_or_ge i k with h3 | h3
     ·exact HNO.out i hi h3
     ·obtain rfl:i=k:=by omega
      exact h0)
    rw [h0] at hcell
    clear HNO
    go_wp2_with fail
    exact ⟨⟨k+1,by omega,rfl,trivial,HN.out⟩,by show xs.length - ((k:Int)+1).toNat < xs.length - (k:Int).toNat;omega⟩
   ·have HH:=zh (orI_hit hlt HNO.out h0)
    clear HNO
    obtain ⟨x,hx0⟩:∃ x,x=xs[k]:=⟨_,rfl⟩
    rw [<- hx0] at hcell h0 HH
    clear hx0
    have h0b:(x != 0)=true:=by simpa using h0
    go_wp2_with fail
    exact fin hR ⟨(by rw [HH.out];try rfl),rfl⟩
  ·go_wp2_with fail
   exact fin hR ⟨(by rw [orI_none fun i hi=>HNO.out i hi (by omega)];try rfl),rfl⟩
theorem ints_sl (w:World) (xs:List Int) (hx:xs.length<=1000):Sl (w.alloc (.cells (ints xs).toArray 3)) No 3 (.slice (some ⟨w.heap.size,0,none⟩) xs.length xs.length) xs.length (ints xs):=by
 have:=own_alloc (w:=w) (e:=3) (xs:=ints xs) (by rw [ints_length];unfold maxLen;omega)
 rw [ints_length] at this
 exact Sl.of_own this fun _ _ f=>f
set_option maxRecDepth 100000 in
set_option maxHeartbeats 4000000 in
theorem marks_any (a b:List UInt8) (ha:a.length<=1000000) (hb:b.length<=1000000) (w:World) :
  Calls prog 95 #[strV a,strV b] w fun e w'=>e=.returned (.int .i64 (markC a b))/\Mod No w w':=by
 refine calls_hide fun R hR=>?_
 have HDA:=zh (digits_any a ha)
 have HDB:=zh (digits_any b hb)
 have HCS:=zh (compareS_any a b)
 have HCN:=zh (compareN_any (a.length:Int) (b.length:Int))
 have HOR:=zh (show ∀ w:World,Calls prog 92 #[.slice (some ⟨w.heap.size,0,none⟩) 2 2] (w.alloc (.cells #[.int .i64 (cmpN a.length b.length),.int .i64 (cmpL a b)] 3)) fun e w'=>e=.returned (.int .i64 (orI [cmpN a.length b.length,cmpL a b]))/\w'=w.alloc (.cells #[.int .i64 (cmpN a.length b.length),.int .i64 (cmpL a b)] 3) from fun w=>or_any [cmpN a.length b.length,cmpL a b] (by simp) _ _ (ints_sl w [cmpN a.length b.length,cmpL a b] (by simp)))
 have HM:markC a b=if digitsB a && digitsB b then orI [cmpN a.length b.length,cmpL a b] else if digitsB a then -1 else if digitsB b then 1 else cmpL a b:=rfl
 have HMH:=zh HM
 clear HM
 unfold strV at *
 have hza:((⟨a.toArray⟩:ByteArray).size:Int)=(a.length:Int):=by rw [str_len3]
 have hzb:((⟨b.toArray⟩:ByteArray).size:Int)=(b.length:Int):=by rw [str_len3]
 generalize (⟨a.toArray⟩:ByteArray)=A at *
 generalize (⟨b.toArray⟩:ByteArray)=B at *
 generalize cmpN a.length b.length=cn at *
 generalize cmpL a b=cl at *
 generalize digitsB a=da at *
 generalize digitsB b=db at *
 go_enter func95,ntmps95
 go_wp2_with fail
 with_reducible refine (HDA.out _).mono ?_
 rintro e w1 ⟨rfl,rfl⟩
 go_wp2_with fail
 with_reducible refine (HDB.out _).mono ?_
 rintro e w1 ⟨rfl,rfl⟩
 rcases da with _ | _
 ·rcases db with _ | _
  ·go_wp2_with fail
   with_reducible refine (HCS.out _).mono ?_
   rintro e w1 ⟨rfl,rfl⟩
   go_wp2_with fail
   exact fin hR ⟨by rw [HMH.out];rfl,Mod.refl _ _⟩
  ·go_wp2_with fail
   exact fin hR ⟨by rw [HMH.out];rfl,Mod.refl _ _⟩
 ·rcases db with _ | _
  ·go_wp2_with fail
   exact fin hR ⟨by rw [HMH.out];rfl,Mod.refl _ _⟩
  ·go_wp2_with fail
   with_reducible refine (HCN.out _).mono ?_
   rintro e w1 ⟨rfl,rfl⟩
   go_wp2_with fail
   with_reducible refine (HCS.out _).mono ?_
   rintro e w1 ⟨rfl,rfl⟩
   go_wp2_with fail
   with_reducible refine (HOR.out _).mono ?_
   rintro e w2 ⟨rfl,rfl⟩
   go_wp2_with fail
   exact fin hR ⟨by rw [HMH.out];rfl,(Mod.refl _ _).alloc _⟩
set_option maxRecDepth 100000 in
set_option maxHeartbeats 4000000 in
theorem compmarks_any (xs ys:List (List UInt8)) (hx:xs.length<=1000000) (hy:ys.length<=1000000) (hxl:∀ x ∈ xs,x.length<=1000000) (hyl:∀ y ∈ ys,y.length<=1000000) (v u:Value) (w:World) (hv:SvX w No v xs.length (strs xs)) (hu:SvX w No u ys.length (strs ys)) :
  Calls prog 94 #[v,u,.func (.func 95) #[] #[]] w fun e w'=>e=.returned (.int .i64 (preC xs ys))/\Mod No w w':=by
 refine calls_hide fun R hR=>?_
 obtain ⟨va,vc,rfl⟩:=hv.len
 obtain ⟨ua,uc,rfl⟩:=hu.len
 have HV:=zh hv
 have HU:=zh hu
 have HMK:=zh (fun i (hi:i < xs.length) (hj:i < ys.length)=>marks_any xs[i] ys[i] (hxl _ (List.getElem_mem hi)) (hyl _ (List.getElem_mem hj)))
 clear hv hu hxl hyl
 have eg:∀ args w,(callFunc 95 args).run prog w=.ok (.enter 95 args) w:=fun _ _=>rfl
 go_enter func94,ntmps94
 go_wp2_with fail
 go_loopw [13] (fun q wr=>∃ k:Nat,k<=xs.length/\k<=ys.length/\q=.int .i64 k/\Mod No w wr/\∀ i (h1:i < xs.length) (h2:i < ys.length),i < k->markC xs[i] ys[i]=0) (fun q _=>xs.length - (intOf q).toNat)
 case atStart=>exact ⟨0,by omega,by omega,rfl,Mod.refl _ _,fun i _ _ hi=>absurd hi (by omega)⟩
 case round =>
  obtain ⟨k,hk,hky,rfl,hmod,hno⟩:=hrel
  have HM:=zh hmod
  have HNO:=zh hno
  have hk0:(0:Int)<=(k:Int):=Int.natCast_nonneg _
  clear hmod hno
  by_cases hlt:k < xs.length
  ·have hk1:(k:Int) < (xs.length:Int):=by omega
   obtain ⟨b,o,c,hvs,_⟩:=HV.out.shape (by omega)
   cases hvs
   have hcell:=HM.out.cell (HV.out.cellN (i:=k) (by rw [strs_length];exact hlt)) (fun f=>f)
   rw [show (strs xs)[k]'(by rw [strs_length];exact hlt)=.string ⟨xs[k].toArray⟩ from by simp [strs,strV]] at hcell
   by_cases hly:k < ys.length
   ·have hk2:(k:Int) < (ys.length:Int):=by omega
    obtain ⟨b2,o2,c2,hus,_⟩:=HU.out.shape (by omega)
    cases hus
    have hcell2:=HM.out.cell (HU.out.cellN (i:=k) (by rw [strs_length];exact hly)) (fun f=>f)
    rw [show (strs ys)[k]'(by rw [strs_length];exact hly)=.string ⟨ys[k].toArray⟩ from by simp [strs,strV]] at hcell2
    have HC:=zh (HMK.out k hlt hly)
    have HN:=zh (show markC xs[k] ys[k]=0->∀ i (h1:i < xs.length) (h2:i < ys.length),i < k+1->markC xs[i] ys[i]=0 from fun h i h1 h2 hik=>by
     rcases Nat.lt_or_ge i k with h3 | h3
     ·exact HNO.out i h1 h2 h3
     ·obtain rfl:i=k:=by omega
      exact h)
    have HH:=zh (show markC xs[k] ys[k] ≠ 0->preC xs ys=markC xs[k] ys[k] from fun h=>preC_hit hlt hly HNO.out h)
    clear HNO
    go_wp2_with fail
    with_reducible refine (HC.out _).mono ?_
    rintro e w2 ⟨rfl,hm2⟩
    have HM2:=zh (HM.out.trans hm2)
    clear hm2
    generalize markC xs[k] ys[k]=mk at *
    by_cases h0:mk=0
    ·subst h0
     have hn:=HN.out rfl
     have HN2:=zh hn
     clear hn HN HH
     go_wp2_with fail
     exact ⟨⟨k+1,by omega,by omega,rfl,HM2.out,HN2.out⟩,by show xs.length - ((k:Int)+1).toNat < xs.length - (k:Int).toNat;omega⟩
    ·have h0b:(mk != 0)=true:=by simpa using h0
     have HH2:=zh (HH.out h0)
     clear HN HH
     go_wp2_with fail
     exact fin hR ⟨(by rw [HH2.out];try rfl),HM2.out⟩
   ·have hk2:(ys.length:Int)<=(k:Int):=by omega
    have HE:=zh (preC_end (k:=k) hk hky (.inr (by omega)) HNO.out)
    have hc:cmpN (xs.length:Int) (ys.length:Int)=1:=by unfold cmpN;rw [if_neg (by omega),if_pos (by omega)]
    rw [hc] at HE
    clear HNO
    go_wp2_with fail
    exact fin hR ⟨(by rw [HE.out];try rfl),HM.out⟩
  ·have HE:=zh (preC_end (k:=k) hk hky (.inl (by omega)) HNO.out)
   clear HNO
   by_cases hly:xs.length < ys.length
   ·have hl2:(xs.length:Int) < (ys.length:Int):=by omega
    have hc:cmpN (xs.length:Int) (ys.length:Int) = -1:=if_pos hl2
    rw [hc] at HE
    go_wp2_with fail
    exact fin hR ⟨(by rw [HE.out];try rfl),HM.out⟩
   ·have hl2:¬ (xs.length:Int) < (ys.length:Int):=by omega
    have hc:cmpN (xs.length:Int) (ys.length:Int)=0:=by unfold cmpN;rw [if_neg hl2,if_neg (by omega)]
    rw [hc] at HE
    go_wp2_with fail
    exact fin hR ⟨(by rw [HE.out];try rfl),HM.out⟩
structure Small (v:Ver):Prop where
 len:v.pre.length<=1000000
 each:∀ x ∈ v.pre,x.length<=1000000
theorem wrap_tiny {x:Int} (h:-2<=x/\x<=2):wrap64 x=x:=by
 unfold wrap64
 omega
theorem cmpN_nat0 (n:Nat):cmpN (n:Int) 0=if n=0 then 0 else 1:=by
 unfold cmpN
 rw [if_neg (by omega)]
 by_cases h:n=0
 ·rw [if_neg (by omega),if_pos h]
 ·rw [if_pos (by omega),if_neg h]
theorem cmpN_0nat (m:Nat):cmpN 0 (m:Int)=if m=0 then 0 else -1:=by
 unfold cmpN
 by_cases h:m=0
 ·rw [if_neg (by omega),if_neg (by omega),if_pos h]
 ·rw [if_pos (by omega),if_neg h]
theorem cmp_sub {m n:Nat} (h:m=0\/n=0):wrap64 (cmpN (n:Int) 0 - cmpN (m:Int) 0)=cmpN (n:Int) (m:Int):=by
 rcases h with rfl | rfl
 ·rw [show ((0:Nat):Int)=0 from rfl,cmpN_nat0 n,show cmpN 0 0=0 from rfl]
  by_cases h:n=0
  ·rw [if_pos h,wrap_tiny (by omega)];rfl
  ·rw [if_neg h,wrap_tiny (by omega)];rfl
 ·rw [show ((0:Nat):Int)=0 from rfl,cmpN_nat0 m,cmpN_0nat m,show cmpN 0 0=0 from rfl]
  by_cases h:m=0
  ·rw [if_pos h,if_pos h,wrap_tiny (by omega)];rfl
  ·rw [if_neg h,if_neg h,wrap_tiny (by omega)];rfl
set_option maxRecDepth 100000 in
set_option maxHeartbeats 8000000 in
theorem vercmp_sv (a b:Ver) (ha:Small a) (hb:Small b) (pa pb:Value) (w:World) (hpa:SvX w No pa a.pre.length (strs a.pre)) (hpb:SvX w No pb b.pre.length (strs b.pre)) :
  Calls prog 59 #[verV a pa,verV b pb] w fun e w'=>e=.returned (.int .i64 (verC a b))/\Mod No w w':=by
 refine calls_hide fun R hR=>?_
 obtain ⟨a0,a1,a2,as'⟩:=a
 obtain ⟨b0,b1,b2,bs'⟩:=b
 obtain ⟨va,vc,rfl⟩:=hpa.len
 obtain ⟨ua,uc,rfl⟩:=hpb.len
 have HPA:=zh hpa
 have HPB:=zh hpb
 have HCN:=zh compareN_any
 have HOR:=zh (show ∀ w:World,Calls prog 92 #[.slice (some ⟨w.heap.size,0,none⟩) 3 3] (w.alloc (.cells #[.int .i64 (cmpN a0 b0),.int .i64 (cmpN a1 b1),.int .i64 (cmpN a2 b2)] 3)) fun e w'=>e=.returned (.int .i64 (orI [cmpN a0 b0,cmpN a1 b1,cmpN a2 b2]))/\w'=w.alloc (.cells #[.int .i64 (cmpN a0 b0),.int .i64 (cmpN a1 b1),.int .i64 (cmpN a2 b2)] 3) from fun w=>or_any [cmpN a0 b0,cmpN a1 b1,cmpN a2 b2] (by simp) _ _ (ints_sl w [cmpN a0 b0,cmpN a1 b1,cmpN a2 b2] (by simp)))
 have HCM:=zh (fun (w:World) h1 h2=>compmarks_any as' bs' ha.len hb.len ha.each hb.each (.slice va as'.length vc) (.slice ua bs'.length uc) w h1 h2)
 have HVC:=zh (show verC ⟨a0,a1,a2,as'⟩ ⟨b0,b1,b2,bs'⟩=if orI [cmpN a0 b0,cmpN a1 b1,cmpN a2 b2]=0 then if as'=[]\/bs'=[] then cmpN bs'.length as'.length else preC as' bs' else orI [cmpN a0 b0,cmpN a1 b1,cmpN a2 b2] from rfl)
 clear hpa hpb ha hb
 unfold verV at *
 dsimp only at *
 go_enter func59,ntmps59
 go_upto_region 1 with fail
 obtain ⟨gx,hgx⟩:∃ g,g=w.heap.size:=⟨_,rfl⟩
 obtain ⟨gy,hgy⟩:∃ g,g=gx+1:=⟨_,rfl⟩
 rw [<- hgx,<- hgy]
 obtain ⟨wA,hwA⟩:∃ z,z=((w.alloc (.cells #[.int .i64 a0,.int .i64 a1,.int .i64 a2,.slice va as'.length vc] 40)).alloc (.cells #[.int .i64 b0,.int .i64 b1,.int .i64 b2,.slice ua bs'.length uc] 40)).drew:=⟨_,rfl⟩
 have hx1:wA.heap[gx]? = some (.cells #[.int .i64 a0,.int .i64 a1,.int .i64 a2,.slice va as'.length vc] 40 (0,0)):=by rw [hwA,hgx];exact ((Mod.refl No _).alloc _).drew.keep (heap_alloc_new w _) (fun f=>f)
 have hy1:wA.heap[gy]? = some (.cells #[.int .i64 b0,.int .i64 b1,.int .i64 b2,.slice ua bs'.length uc] 40 (0,0)):=by
  rw [hwA,hgy,hgx]
  have h1:=heap_alloc_new (w.alloc (.cells #[.int .i64 a0,.int .i64 a1,.int .i64 a2,.slice va as'.length vc] 40)) (.cells #[.int .i64 b0,.int .i64 b1,.int .i64 b2,.slice ua bs'.length uc] 40)
  rw [show (w.alloc (.cells #[.int .i64 a0,.int .i64 a1,.int .i64 a2,.slice va as'.length vc] 40)).heap.size=w.heap.size+1 by simp] at h1
  exact h1
 have HMA:=zh (show Mod No w wA by rw [hwA];exact (((Mod.refl No w).alloc _).alloc _).drew)
 have HWA:=zh hwA
 clear hwA hgx hgy
 have HSM:=zh (show ∀ w',Mod No wA w'->w'.cell? ⟨gx,0,none⟩=some (.int .i64 a0)/\w'.cell? ⟨gx,1,none⟩=some (.int .i64 a1)/\w'.cell? ⟨gx,2,none⟩=some (.int .i64 a2)/\w'.cell? ⟨gy,0,none⟩=some (.int .i64 b0)/\w'.cell? ⟨gy,1,none⟩=some (.int .i64 b1)/\w'.cell? ⟨gy,2,none⟩=some (.int .i64 b2) from fun w' hm =>
  ⟨cell_ofA (hm.keep hx1 (fun f=>f)) rfl,cell_ofA (hm.keep hx1 (fun f=>f)) rfl,cell_ofA (hm.keep hx1 (fun f=>f)) rfl,cell_ofA (hm.keep hy1 (fun f=>f)) rfl,cell_ofA (hm.keep hy1 (fun f=>f)) rfl,cell_ofA (hm.keep hy1 (fun f=>f)) rfl⟩)
 have hS0:=HSM.out wA (Mod.refl _ _)
 have HX1:=zh hx1
 have HY1:=zh hy1
 clear hx1 hy1
 refine wp_region_T (fun w'=>w'.cell? ⟨gx,0,none⟩=some (.int .i64 a0)/\w'.cell? ⟨gx,1,none⟩=some (.int .i64 a1)/\w'.cell? ⟨gx,2,none⟩=some (.int .i64 a2)/\w'.cell? ⟨gy,0,none⟩=some (.int .i64 b0)/\w'.cell? ⟨gy,1,none⟩=some (.int .i64 b1)/\w'.cell? ⟨gy,2,none⟩=some (.int .i64 b2)) 99 (by kernel_rfl) ?_
 rw [<- HWA.out]
 clear HWA
 refine yT 0 (some 6) ?_ hS0 ?_ ?_
 rotate_left
 ·(intro w' hSw;obtain ⟨c0,c1,c2,c3,c4,c5⟩:=hSw;go_simp;try with_reducible rfl)
 simp only [Act.put,yB,yC,yD]
 refine yT 1 (some 7) ?_ hS0 ?_ ?_
 rotate_left
 ·(intro w' hSw;obtain ⟨c0,c1,c2,c3,c4,c5⟩:=hSw;go_simp;try with_reducible rfl)
 simp only [Act.put,yB,yC,yD]
 refine yT 2 (some 8) ?_ hS0 ?_ ?_
 rotate_left
 ·(intro w' hSw;obtain ⟨c0,c1,c2,c3,c4,c5⟩:=hSw;go_simp;try with_reducible rfl)
 simp only [Act.put,yB,yC,yD]
 refine yT 3 (some 9) ?_ hS0 ?_ ?_
 rotate_left
 ·(intro w' hSw;obtain ⟨c0,c1,c2,c3,c4,c5⟩:=hSw;go_simp;try with_reducible rfl)
 simp only [Act.put,yB,yC,yD]
 refine yT 5 (some 11) ?_ hS0 ?_ ?_
 rotate_left
 ·(intro w' hSw;obtain ⟨c0,c1,c2,c3,c4,c5⟩:=hSw;go_simp;try with_reducible rfl)
 simp only [Act.put,yB,yC,yD]
 refine yT 6 (some 12) ?_ hS0 ?_ ?_
 rotate_left
 ·(intro w' hSw;obtain ⟨c0,c1,c2,c3,c4,c5⟩:=hSw;go_simp;try with_reducible rfl)
 simp only [Act.put,yB,yC,yD]
 refine yT 7 (some 13) ?_ hS0 ?_ ?_
 rotate_left
 ·(intro w' hSw;obtain ⟨c0,c1,c2,c3,c4,c5⟩:=hSw;go_simp;try with_reducible rfl)
 simp only [Act.put,yB,yC,yD]
 refine yT 8 (some 14) ?_ hS0 ?_ ?_
 rotate_left
 ·(intro w' hSw;obtain ⟨c0,c1,c2,c3,c4,c5⟩:=hSw;go_simp;try with_reducible rfl)
 simp only [Act.put,yB,yC,yD]
 refine yT 10 (some 16) ?_ hS0 ?_ ?_
 rotate_left
 ·(intro w' hSw;obtain ⟨c0,c1,c2,c3,c4,c5⟩:=hSw;go_simp;try with_reducible rfl)
 simp only [Act.put,yB,yC,yD]
 refine yT 11 (some 17) ?_ hS0 ?_ ?_
 rotate_left
 ·(intro w' hSw;obtain ⟨c0,c1,c2,c3,c4,c5⟩:=hSw;go_simp;try with_reducible rfl)
 simp only [Act.put,yB,yC,yD]
 refine yT 12 (some 18) ?_ hS0 ?_ ?_
 rotate_left
 ·(intro w' hSw;obtain ⟨c0,c1,c2,c3,c4,c5⟩:=hSw;go_simp;try with_reducible rfl)
 simp only [Act.put,yB,yC,yD]
 refine yT 13 (some 19) ?_ hS0 ?_ ?_
 rotate_left
 ·(intro w' hSw;obtain ⟨c0,c1,c2,c3,c4,c5⟩:=hSw;go_simp;try with_reducible rfl)
 simp only [Act.put,yB,yC,yD]
 refine wpAnyT_one 4 rfl (by kernel_rfl) rfl ?_
 intro K hK
 go_simp
 go_at_call 93
 with_reducible refine (HCN.out a0 b0 _).mono ?_
 rintro e wB ⟨rfl,hB⟩
 rw [hB]
 clear hB wB
 show K _ _
 have hS1:=hS0
 refine hK.out _ _ (fun _=>hS1) ?_
 clear hK K
 refine wpAnyT_one 9 rfl (by kernel_rfl) rfl ?_
 intro K hK
 go_simp
 go_at_call 93
 with_reducible refine (HCN.out a1 b1 _).mono ?_
 rintro e wB ⟨rfl,hB⟩
 rw [hB]
 clear hB wB
 show K _ _
 have hS2:=hS0
 refine hK.out _ _ (fun _=>hS2) ?_
 clear hK K
 refine wpAnyT_one 14 rfl (by kernel_rfl) rfl ?_
 intro K hK
 go_simp
 go_at_call 93
 with_reducible refine (HCN.out a2 b2 _).mono ?_
 rintro e wB ⟨rfl,hB⟩
 rw [hB]
 clear hB wB
 show K _ _
 have hS3:=hS0
 refine hK.out _ _ (fun _=>hS3) ?_
 clear hK K
 refine wpAnyT_one 15 rfl (by kernel_rfl) rfl ?_
 intro K hK
 go_simp
 show K _ _
 have hS4:=HSM.out (wA.alloc (.cells #[.int .i64 (cmpN a0 b0),.int .i64 (cmpN a1 b1),.int .i64 (cmpN a2 b2)] 3)) ((Mod.refl No wA).alloc _)
 refine hK.out _ _ (fun _=>hS4) ?_
 clear hK K
 refine wpAnyT_one 16 rfl (by kernel_rfl) rfl ?_
 intro K hK
 go_simp
 go_at_call 92
 with_reducible refine (HOR.out wA).mono ?_
 rintro e wB ⟨rfl,hB⟩
 rw [hB]
 clear hB wB
 show K _ _
 have hS5:=HSM.out (wA.alloc (.cells #[.int .i64 (cmpN a0 b0),.int .i64 (cmpN a1 b1),.int .i64 (cmpN a2 b2)] 3)) ((Mod.refl No wA).alloc _)
 refine hK.out _ _ (fun _=>hS5) ?_
 clear hK K
 refine yT 17 (some 5) ?_ hS5 ?_ ?_
 rotate_left
 ·(intro w' hSw;obtain ⟨c0,c1,c2,c3,c4,c5⟩:=hSw;go_simp;try with_reducible rfl)
 simp only [Act.put]
 refine wpAnyT_done (by kernel_rfl) ?_ _
 obtain ⟨wC,hwC⟩:∃ z,z=wA.alloc (.cells #[.int .i64 (cmpN a0 b0),.int .i64 (cmpN a1 b1),.int .i64 (cmpN a2 b2)] 3):=⟨_,rfl⟩
 have HMC:=zh (show Mod No w wC by rw [hwC];exact HMA.out.alloc _)
 have hX:=heap_alloc_old (.cells #[.int .i64 (cmpN a0 b0),.int .i64 (cmpN a1 b1),.int .i64 (cmpN a2 b2)] 3) HX1.out
 have hY:=heap_alloc_old (.cells #[.int .i64 (cmpN a0 b0),.int .i64 (cmpN a1 b1),.int .i64 (cmpN a2 b2)] 3) HY1.out
 rw [<- hwC] at hX hY
 have HPA2:=zh (HPA.out.keep (S:=No) (show Mod No w wC from HMC.out) (fun _ _ _ f=>f.elim))
 have HPB2:=zh (HPB.out.keep (S:=No) (show Mod No w wC from HMC.out) (fun _ _ _ f=>f.elim))
 have cx:=cell_ofA (i:=3) hX rfl
 have cy:=cell_ofA (i:=3) hY rfl
 have HXY:=zh (show ∀ w',Mod No wC w'->w'.cell? ⟨gx,3,none⟩=some (.slice va as'.length vc)/\w'.cell? ⟨gy,3,none⟩=some (.slice ua bs'.length uc) from fun w' hm=>⟨hm.cell cx (fun f=>f),hm.cell cy (fun f=>f)⟩)
 rw [<- hwC]
 clear hwC hX hY HSM hS0 HX1 HY1 HPA HPB HMA HOR
 generalize orI [cmpN a0 b0,cmpN a1 b1,cmpN a2 b2]=o at *
 by_cases ho:o=0
 ·subst ho
  have hvc:=HVC.out
  rw [if_pos rfl] at hvc
  clear HVC
  by_cases he:as'=[]\/bs'=[]
  ·rw [if_pos he] at hvc
   have hle:as'.length=0\/bs'.length=0:=he.imp (fun h=>by rw [h];rfl) (fun h=>by rw [h];rfl)
   rw [<- cmp_sub hle] at hvc
   have HV5:=zh hvc
   clear hvc HCM he HPA2 HPB2
   generalize as'.length=la at *
   generalize bs'.length=lb at *
   by_cases hla:la=0
   ·subst hla
    go_upto_region 5 with fail
    go_quiet (first | (go_at_call 93;refine Calls.quiet_of_same (HCN.out _ _ _)))
    go_wp2_with fail
    exact fin hR ⟨(by rw [HV5.out];try rfl),HMC.out.drewN _⟩
   ·have e1:((la:Int) == 0)=false:=by simpa using hla
    obtain rfl:=hle.resolve_left hla
    go_upto_region 5 with fail
    go_quiet (first | (go_at_call 93;refine Calls.quiet_of_same (HCN.out _ _ _)))
    go_wp2_with fail
    exact fin hR ⟨(by rw [HV5.out];try rfl),HMC.out.drewN _⟩
  ·rw [if_neg he] at hvc
   have HV6:=zh hvc
   have e1:((as'.length:Int) == 0)=false:=by
    rw [beq_eq_false_iff_ne]
    intro h
    exact he (.inl (List.eq_nil_of_length_eq_zero (by omega)))
   have e2:((bs'.length:Int) == 0)=false:=by
    rw [beq_eq_false_iff_ne]
    intro h
    exact he (.inr (List.eq_nil_of_length_eq_zero (by omega)))
   have HC6:=zh (HCM.out wC HPA2.out HPB2.out)
   clear hvc HCM he
   go_wp2_with fail
   with_reducible refine HC6.out.mono ?_
   rintro e w2 ⟨rfl,hm2⟩
   have HM2:=zh (HMC.out.trans hm2)
   clear hm2
   go_wp2_with fail
   exact fin hR ⟨(by rw [HV6.out];try rfl),HM2.out⟩
 ·have hvc:=HVC.out
  rw [if_neg ho] at hvc
  have HV7:=zh hvc
  have hob:(o != 0)=true:=by simpa using ho
  clear hvc HVC
  go_wp2_with fail
  exact fin hR ⟨(by rw [HV7.out];try rfl),HMC.out⟩
theorem ver_info:(prog.info? 40).map (·.size)=some 4:=by kernel_rfl
structure VrX where
 v:Ver
 pv:Value
def VrX.cells (x:VrX):List Value:=[.int .i64 x.v.ma,.int .i64 x.v.mi,.int .i64 x.v.pa,x.pv]
theorem VrX.cells_length (x:VrX):x.cells.length=4:=rfl
structure VrsAt (w:World) (v:Value) (xs:List VrX):Prop where
 each:∀ x ∈ xs,Small x.v/\Sl w No 9 x.pv x.v.pre.length (strs x.v.pre)
 sl:Sl w No 40 v xs.length (xs.flatMap VrX.cells)
theorem VrsAt.no {w w':World} {v:Value} {xs:List VrX} (h:VrsAt w v xs) (hm:Mod No w w'):VrsAt w' v xs :=
 ⟨fun x hx=>⟨(h.each x hx).1,(h.each x hx).2.kn hm⟩,h.sl.kn hm⟩
theorem info_vr:(prog.info? 40).map (fun i=>(i.zero,i.size,i.bytes))=some (some (.agg #[.int .i64 0,.int .i64 0,.int .i64 0,.slice none 0 0]),4,48):=by kernel_rfl
def ltVx (x y:VrX):Bool:=decide (verC y.v x.v < 0)
def versOf (name:List UInt8) (xs:List RwX):List VrX:=(xs.filter fun x=>decide (x.r.name=name)).map fun x=>⟨x.r.v,x.pv⟩
theorem versOf_take {name:List UInt8} {xs:List RwX} {k:Nat} (h:k < xs.length):versOf name (xs.take (k+1))=versOf name (xs.take k)++(if xs[k].r.name=name then [⟨xs[k].r.v,xs[k].pv⟩] else []):=by
 unfold versOf
 rw [List.take_succ_eq_append_getElem h,List.filter_append,List.map_append]
 congr 1
 by_cases e:xs[k].r.name=name
 ·simp [e]
 ·simp [e]
theorem vr_one (x:VrX) (h:∃ a n c,x.pv=.slice a n c):∀ v ∈ x.cells,v.oneCell'=true:=by
 obtain ⟨a,n,c,h⟩:=h
 intro v hv
 unfold VrX.cells at hv
 rw [h] at hv
 simp only [List.mem_cons,List.not_mem_nil,or_false] at hv
 rcases hv with rfl | rfl | rfl | rfl <;> rfl
theorem six_cases (k:Nat):k % 6=0\/k % 6=1\/k % 6=2\/k % 6=3\/k % 6=4\/k % 6=5:=by omega
theorem ten_cases (k:Nat):k % 10=0\/k % 10=1\/k % 10=2\/k % 10=3\/k % 10=4\/k % 10=5\/k % 10=6\/k % 10=7\/k % 10=8\/k % 10=9:=by omega
set_option maxRecDepth 100000 in
theorem seatname_any (k:Nat) (w:World):Calls prog 28 #[.int .u8 (k:Int)] w fun e w'=>e=.returned (strV (nameK k))/\w'=w:=by
 refine calls_hide fun R hR=>?_
 have HN:=zh (show nameK k=[UInt8.ofNat (97+k % 6)] from rfl)
 rcases six_cases k with h | h | h | h | h | h <;>
 ·have HR:=zh h
  have hm:(k:Int).tmod 6=((k % 6:Nat):Int):=(Int.ofNat_tmod k 6).symm
  rw [h] at hm
  have hm2:(k:Int) % 6=((k % 6:Nat):Int):=by omega
  rw [h] at hm2
  clear h
  go_enter func28,ntmps28
  go_wp2_with fail
  refine fin hR ⟨?_,rfl⟩
  rw [HN.out,HR.out]
  rfl
set_option maxRecDepth 100000 in
set_option maxHeartbeats 4000000 in
theorem seatversion_any (k:Nat) (w:World):Calls prog 25 #[.int .u8 (k:Int)] w fun e w'=>e=.returned (strV (verTK k))/\Mod No w w':=by
 refine calls_hide fun R hR=>?_
 have HN:=zh (show verTK k=verTexts.getD (k % 6) [] from rfl)
 have HM:=zh (fun (ob:Obj)=>(Mod.refl No w).alloc ob)
 rcases six_cases k with h | h | h | h | h | h <;>
 ·have HR:=zh h
  have hm:(k:Int).tmod 6=((k % 6:Nat):Int):=(Int.ofNat_tmod k 6).symm
  rw [h] at hm
  have hm2:(k:Int) % 6=((k % 6:Nat):Int):=by omega
  rw [h] at hm2
  clear h
  go_enter func25,ntmps25
  go_wp2_with fail
  refine fin hR ⟨?_,HM.out _⟩
  rw [HN.out,HR.out]
  rfl
set_option maxRecDepth 100000 in
set_option maxHeartbeats 4000000 in
theorem seatspan_any (k:Nat) (w:World):Calls prog 36 #[.int .u8 (k:Int)] w fun e w'=>e=.returned (strV (spanTK k))/\Mod No w w':=by
 refine calls_hide fun R hR=>?_
 have HN:=zh (show spanTK k=spanTexts.getD (k % 10) [] from rfl)
 have HM:=zh (fun (ob:Obj)=>(Mod.refl No w).alloc ob)
 rcases ten_cases k with h | h | h | h | h | h | h | h | h | h <;>
 ·have HR:=zh h
  have hm:(k:Int).tmod 10=((k % 10:Nat):Int):=(Int.ofNat_tmod k 10).symm
  rw [h] at hm
  have hm2:(k:Int) % 10=((k % 10:Nat):Int):=by omega
  rw [h] at hm2
  clear h
  go_enter func36,ntmps36
  go_wp2_with fail
  refine fin hR ⟨?_,HM.out _⟩
  rw [HN.out,HR.out]
  rfl
theorem str_app (a b:List UInt8):(⟨a.toArray⟩:ByteArray) ++ ⟨b.toArray⟩=⟨(a++b).toArray⟩:=by
 apply ByteArray.ext
 rw [ByteArray.data_append]
 simp
theorem str_dot (a:List UInt8) (c:UInt8):(⟨a.toArray⟩:ByteArray) ++ ⟨#[c]⟩=⟨(a++[c]).toArray⟩:=str_app a [c]
theorem dig_cases {n:Nat} (h:n < 10):n=0\/n=1\/n=2\/n=3\/n=4\/n=5\/n=6\/n=7\/n=8\/n=9:=by omega
theorem ycat {w:World} {a b c:List UInt8} {o:Oper} {ρ:Operand->Value} (h:a++b=c/\c.length<=9223372036854775807) (x y:Operand) (ho:o.op=.binOp .add 9 x y 9) (hx:ρ x=.string ⟨a.toArray⟩) (hy:ρ y=.string ⟨b.toArray⟩) :
  (execOp ρ o).run prog w=.ok (.value (.string ⟨c.toArray⟩)) w:=by
 obtain ⟨h1,h2⟩:=h
 subst h1
 rw [List.length_append] at h2
 have hz:¬ (9223372036854775807 < a.length+b.length):=by omega
 unfold execOp
 simp only [ho,hx,hy,Sem.run_bind,Sem.run_pure]
 go_simp
 exact str_app a b
theorem cut_digit (r:Nat) (h:r < 10):(⟨#[48,49,50,51,52,53,54,55,56,57]⟩:ByteArray).extract r (r+1)=⟨[UInt8.ofNat (48+r)].toArray⟩:=by
 rcases dig_cases h with rfl | rfl | rfl | rfl | rfl | rfl | rfl | rfl | rfl | rfl <;> rfl
theorem ydigit {w:World} {r:Nat} {Z:ByteArray} {o:Oper} {ρ:Operand->Value} (hr:r < 10) (hc:(⟨#[48,49,50,51,52,53,54,55,56,57]⟩:ByteArray).extract r (r+1)=Z) (x y:Operand) (ho:o.op=.slice 9 (.const (.string ⟨#[48,49,50,51,52,53,54,55,56,57]⟩)) (some x) (some y) none) (hx:ρ x=.int .i64 (r:Int)) (hy:ρ y=.int .i64 ((r:Int)+1)) (hk:ρ (.const (.string ⟨#[48,49,50,51,52,53,54,55,56,57]⟩))=.string ⟨#[48,49,50,51,52,53,54,55,56,57]⟩) :
  (execOp ρ o).run prog w=.ok (.value (.string Z)) w:=by
 have h0:(0:Int)<=(r:Int):=Int.natCast_nonneg _
 have h1:(r:Int) < 10:=by omega
 have h2:0<=(r:Int)+1/\(r:Int)+1<=10:=by omega
 have h3:(r:Int)<=(r:Int)+1:=by omega
 unfold execOp
 simp only [ho,Option.map_none,Option.map_some,hx,hy,hk,Sem.run_bind,Sem.run_pure]
 go_simp
set_option maxRecDepth 100000 in
set_option maxHeartbeats 4000000 in
theorem dec_nat:∀ (m n:Nat),n < m->n < 1000000000000000000->∀ w,Calls prog 27 #[.int .i64 (n:Int)] w fun e w'=>e=.returned (strV (decT n))/\Mod No w w'
 | 0,n,h,_,_=>absurd h (Nat.not_lt_zero _)
 | m+1,n,h,hn,w=>by
  refine calls_hide fun R hR=>?_
  have h0:(0:Int)<=(n:Int):=Int.natCast_nonneg _
  by_cases h10:n < 10
  ·have HD:=zh (decT_small h10)
   have HC:=zh (cut_digit n h10)
   have h1:(n:Int) < 10:=by omega
   clear h
   go_enter func27,ntmps27
   go_wp2_with fail
   refine fin hR ⟨?_,Mod.refl _ _⟩
   rw [HD.out]
   exact congrArg (fun z=>Ending.returned (.string z)) HC.out
  ·have HIH:=zh (dec_nat m (n / 10) (by omega) (by omega))
   have HD:=zh (decT_great h10)
   have h1:¬ (n:Int) < 10:=by omega
   have hr10:n % 10 < 10:=by omega
   have hm:(n:Int).tmod 10=((n % 10:Nat):Int):=(Int.ofNat_tmod n 10).symm
   have hq:(n:Int).tdiv 10=((n / 10:Nat):Int):=(Int.ofNat_tdiv n 10).symm
   unfold strV at *
   have hn3:(n:Int) < 1000000000000000000:=by omega
   have hq0:(0:Int)<=((n / 10:Nat):Int):=Int.natCast_nonneg _
   have hr0:(0:Int)<=((n % 10:Nat):Int):=Int.natCast_nonneg _
   have hr9:((n % 10:Nat):Int) < 10:=by omega
   have hqn:n / 10 < 1000000000000000000:=by omega
   have hwq:IntKind.i64.wrap ((n / 10:Nat):Int)=((n / 10:Nat):Int):=by rw [IntKind.wrap_i64];omega
   have hwr:IntKind.i64.wrap (((n % 10:Nat):Int)+1)=((n % 10:Nat):Int)+1:=by rw [IntKind.wrap_i64];omega
   have hZe:=cut_digit (n % 10) hr10
   generalize n % 10=r at *
   generalize n / 10=q at *
   obtain ⟨d,hd⟩:∃ d,d=UInt8.ofNat (48+r):=⟨_,rfl⟩
   rw [<- hd] at HD
   have hZ:(⟨#[48,49,50,51,52,53,54,55,56,57]⟩:ByteArray).extract r (r+1)=⟨[d].toArray⟩:=by rw [hd];exact hZe
   clear hZe hd
   have HQL:=zh (show decT q++[d]=decT q++[d]/\(decT q++[d]).length<=9223372036854775807 from ⟨rfl,by have:=(decT_all q).2.2.2 18 (by omega);rw [List.length_append,List.length_singleton];omega⟩)
   clear h hn h10
   go_enter func27,ntmps27
   go_upto_region 4 with fail
   obtain ⟨wA,hwA⟩:∃ y,y=w.drew:=⟨_,rfl⟩
   have HWM:=zh (show Mod No w wA by rw [hwA];exact (Mod.refl No w).drew)
   have HWD:=zh hwA
   clear hwA
   have hS0:True:=trivial
   refine wp_region_T (fun _=>True) 99 (by kernel_rfl) ?_
   rw [<- HWD.out]
   refine yT 0 (some 11) ?_ hS0 ?_ ?_
   rotate_left
   ·(intro w' hSw;go_simp;try with_reducible rfl)
   simp only [Act.put,yB,yC,yD]
   refine yT 1 (some 12) (.int .i64 (q:Int)) hS0 ?_ ?_
   ·(intro w' hSw;go_simp;try with_reducible rfl)
   simp only [Act.put,yB,yC,yD]
   refine yT 3 (some 14) ?_ hS0 ?_ ?_
   rotate_left
   ·(intro w' hSw;go_simp;try with_reducible rfl)
   simp only [Act.put,yB,yC,yD]
   refine yT 4 (some 15) (.int .i64 (r:Int)) hS0 ?_ ?_
   ·(intro w' hSw;go_simp;try with_reducible rfl)
   simp only [Act.put,yB,yC,yD]
   refine yT 5 (some 16) ?_ hS0 ?_ ?_
   rotate_left
   ·(intro w' hSw;go_simp;try with_reducible rfl)
   simp only [Act.put,yB,yC,yD]
   refine yT 6 (some 17) (.int .i64 (r:Int)) hS0 ?_ ?_
   ·(intro w' hSw;go_simp;try with_reducible rfl)
   simp only [Act.put,yB,yC,yD]
   refine wpAnyT_takeV 7 (some 18) (.int .i64 ((r:Int)+1)) rfl rfl (by kernel_rfl) (fun _ _ _ h=>h) hS0 (Or.inl ⟨by rfl,?_⟩) ?_
   ·(intro w' hSw;go_simp;try with_reducible rfl)
   simp only [Act.put,yB,yC,yD]
   refine yT 8 (some 19) (.string ⟨[d].toArray⟩) hS0 ?_ ?_
   ·(intro w' hSw;apply ydigit hr10 hZ (.tmp 15) (.tmp 18) <;> rfl)
   simp only [Act.put,yB,yC,yD]
   refine wpAnyT_one 2 rfl (by kernel_rfl) rfl ?_
   intro K hK
   go_simp
   go_at_call 27
   with_reducible refine (HIH.out _).mono ?_
   rintro e wB ⟨rfl,hB⟩
   have HM:=zh (HWM.out.trans hB)
   clear hB
   show K _ _
   have hS1:=trivial
   refine hK.out _ _ (fun _=>hS1) ?_
   clear hK K
   refine yT 9 (some 20) (.string ⟨(decT q++[d]).toArray⟩) hS1 ?_ ?_
   ·(intro w' hSw;apply ycat HQL.out (.tmp 13) (.tmp 19) <;> rfl)
   simp only [Act.put,yB,yC,yD]
   refine yT 10 (some 2) ?_ hS1 ?_ ?_
   rotate_left
   ·(intro w' hSw;go_simp;try with_reducible rfl)
   simp only [Act.put]
   refine wpAnyT_done (by kernel_rfl) ?_ _
   clear hS0
   go_wp2_with fail
   refine fin hR ⟨?_,HM.out⟩
   rw [HD.out]
theorem dec_any (n:Int) (hn:n < 1000000000000000000) (w:World):Calls prog 27 #[.int .i64 n] w fun e w'=>e=.returned (strV (decT n.toNat))/\Mod No w w':=by
 by_cases h:0<=n
 ·have:=dec_nat (n.toNat+1) n.toNat (Nat.lt_succ_self _) (by omega) w
  rw [Int.toNat_of_nonneg h] at this
  exact this
 ·refine calls_hide fun R hR=>?_
  have HZ:=zh (show n.toNat=0 by omega)
  have HC:=zh (cut_digit 0 (by decide))
  have HD:=zh (decT_small (n:=0) (by decide))
  have h1:n < 10:=by omega
  have h2:max n 0=0:=by omega
  have h3:n<=0:=by omega
  go_enter func27,ntmps27
  go_wp2_with fail
  refine fin hR ⟨?_,Mod.refl _ _⟩
  rw [HZ.out,HD.out]
  exact congrArg (fun z=>Ending.returned (.string z)) HC.out
end Go.Proofs.YtgiigemfbebcgaaGreatDoor
