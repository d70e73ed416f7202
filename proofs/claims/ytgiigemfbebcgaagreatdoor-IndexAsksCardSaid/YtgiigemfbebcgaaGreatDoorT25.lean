/-
  Layers 0 to 14: helps of the laws of indexes. No statement is proved here; no condition.
-/
import Derived.Test.YtgiigemfbebcgaaGreatDoorT24
import Derived.Test.YtgiigemfbebcgaaGreatDoorT20
import Derived.Test.YtgiigemfbebcgaaGreatDoorT09
import Derived.Test.YtgiigemfbebcgaaGreatDoorT01
import Derived.Test.YtgiigemfbebcgaaGreatDoorT13
import Derived.Test.YtgiigemfbebcgaaGreatDoorT03
import Derived.Test.YtgiigemfbebcgaaGreatDoorT06
import Derived.Test.YtgiigemfbebcgaaGreatDoorT11
namespace Go.Proofs.YtgiigemfbebcgaaGreatDoor
open _root_.Go.Proofs.Tryz
open Go.RowKit
def NeedRes (w':World) (o:Option Nd) (e:Ending):Prop:=match o with
 | some n=>∃ oa om oc,e=.returned (.tuple #[.agg #[strV n.name,.bool n.span.any,.slice oa om oc,strV n.text],.bool true])/\OrsAt w' (.slice oa om oc) n.span.ors
 | none=>∃ s1 b oa om oc s2,e=.returned (.tuple #[.agg #[.string s1,.bool b,.slice oa om oc,.string s2],.bool false])
set_option maxRecDepth 100000 in
theorem load_need {w:World} {b:Nat} {v0 v1 v2 v3:Value} (h:w.heap[b]? = some (.cells #[v0,v1,v2,v3] 81 (0,0))) :
  (loadVar 81 ⟨b,0,none⟩).run prog w=.ok (.agg #[v0,v1,v2,v3]) w :=
 run_loadVar_row (P:=prog) w b 81 81 #[v0,v1,v2,v3] (0,0) _ h underlying81 rfl (by kernel_rfl)
set_option maxRecDepth 100000 in
theorem hasprefix_lite (l p:List UInt8) (w:World):Calls prog 175 #[strV l,strV p] w fun e w'=>e=.returned (.bool (decide (l.take p.length=p)))/\w'=w:=by
 refine calls_hide fun R hR=>?_
 have HEX:=zh (str_to l p.length)
 have HZ:=zh (str_len3 l)
 have HP:=zh (str_len3 p)
 have hTP:=str_list p
 have hTT:=str_list (l.take p.length)
 unfold strV at *
 generalize (⟨l.toArray⟩:ByteArray)=Z at *
 generalize (⟨p.toArray⟩:ByteArray)=Q at *
 have hZs:(Z.size:Int)=(l.length:Int):=by rw [HZ.out]
 have hQs:(Q.size:Int)=(p.length:Int):=by rw [HP.out]
 go_enter func175,ntmps175
 by_cases h:p.length<=l.length
 ·have h1:(p.length:Int)<=(l.length:Int):=by omega
  have h0:(0:Int)<=(p.length:Int):=Int.natCast_nonneg _
  have hext:=HEX.out
  go_wp2_with fail
  refine fin hR ⟨bool_ret ?_,rfl⟩
  first
   | rfl
   |(by_cases hh:l.take p.length=p
     ·rw [decide_eq_true hh,hh];simp
     ·rw [decide_eq_false hh];simpa using hh)
 ·have h1:¬ (p.length:Int)<=(l.length:Int):=by omega
  have HF:=zh (show decide (l.take p.length=p)=false from decide_eq_false fun e=>h (by
   have:=congrArg List.length e
   rw [List.length_take] at this
   omega))
  go_wp2_with fail
  refine fin hR ⟨bool_ret ?_,rfl⟩
  rw [HF.out]
set_option maxRecDepth 100000 in
theorem hasprefix_any (l p:List UInt8) (w:World):Calls prog 203 #[strV l,strV p] w fun e w'=>e=.returned (.bool (decide (l.take p.length=p)))/\w'=w:=by
 refine calls_hide fun R hR=>?_
 have HL:=zh (hasprefix_lite l p)
 unfold strV at *
 generalize (⟨l.toArray⟩:ByteArray)=Z at *
 generalize (⟨p.toArray⟩:ByteArray)=Q at *
 go_enter func203,ntmps203
 go_wp2_with fail
 with_reducible refine (HL.out _).mono ?_
 rintro e w1 ⟨rfl,rfl⟩
 go_wp2_with fail
 exact fin hR ⟨rfl,rfl⟩
def signs:List (List UInt8):=[[60,61],[62,61],[60],[62],[61],[94],[126]]
theorem sign_hit {l:List UInt8}:∀ k:Fin 7,(∀ i:Fin 7,i.1 < k.1->l.take (signs.getD i.1 []).length ≠ signs.getD i.1 [])->l.take (signs.getD k.1 []).length=signs.getD k.1 []->signL l=signs.getD k.1 []:=by
 intro k h1 h2
 have g:=fun (i:Nat) (hi:i < 7)=>h1 ⟨i,hi⟩
 obtain ⟨k,hk⟩:=k
 unfold signL
 match k,hk with
 | 0,_=>rw [if_pos (.inl h2)];exact h2
 | 1,_=>rw [if_pos (.inr h2)];exact h2
 | 2,_ =>
  rw [if_neg (by rintro (h | h);exact g 0 (by omega) (Nat.le_of_ble_eq_true rfl) h;exact g 1 (by omega) (Nat.le_of_ble_eq_true rfl) h),if_pos (.inl h2)];exact h2
 | 3,_ =>
  rw [if_neg (by rintro (h | h);exact g 0 (by omega) (Nat.le_of_ble_eq_true rfl) h;exact g 1 (by omega) (Nat.le_of_ble_eq_true rfl) h),if_pos (.inr (.inl h2))];exact h2
 | 4,_ =>
  rw [if_neg (by rintro (h | h);exact g 0 (by omega) (Nat.le_of_ble_eq_true rfl) h;exact g 1 (by omega) (Nat.le_of_ble_eq_true rfl) h),if_pos (.inr (.inr (.inl h2)))];exact h2
 | 5,_ =>
  rw [if_neg (by rintro (h | h);exact g 0 (by omega) (Nat.le_of_ble_eq_true rfl) h;exact g 1 (by omega) (Nat.le_of_ble_eq_true rfl) h),if_pos (.inr (.inr (.inr (.inl h2))))];exact h2
 | 6,_ =>
  rw [if_neg (by rintro (h | h);exact g 0 (by omega) (Nat.le_of_ble_eq_true rfl) h;exact g 1 (by omega) (Nat.le_of_ble_eq_true rfl) h),if_pos (.inr (.inr (.inr (.inr h2))))];exact h2
theorem sign_none {l:List UInt8} (h:∀ i:Fin 7,l.take (signs.getD i.1 []).length ≠ signs.getD i.1 []):signL l=[]:=by
 unfold signL
 rw [if_neg,if_neg]
 ·rintro (h1 | h1 | h1 | h1 | h1)
  ·exact h 2 h1
  ·exact h 3 h1
  ·exact h 4 h1
  ·exact h 5 h1
  ·exact h 6 h1
 ·rintro (h1 | h1)
  ·exact h 0 h1
  ·exact h 1 h1
set_option maxRecDepth 100000 in
set_option maxHeartbeats 4000000 in
theorem signed_any (l:List UInt8) (w:World):Calls prog 184 #[strV l] w fun e w'=>e=.returned (.tuple #[strV (signL l),strV (l.drop (signL l).length)])/\Mod No w w':=by
 refine calls_hide fun R hR=>?_
 have HHP:=zh (hasprefix_any l)
 have HEF:=zh (str_from l)
 have HZ:=zh (str_len3 l)
 have HPL:=zh str_len3
 unfold strV at *
 have hZe:(⟨l.toArray⟩:ByteArray)=⟨(l.drop 0).toArray⟩:=by rw [List.drop_zero]
 have HZE:=zh hZe
 clear hZe
 generalize (⟨l.toArray⟩:ByteArray)=Z at *
 have hZs:(Z.size:Int)=(l.length:Int):=by rw [HZ.out]
 go_enter func184,ntmps184
 go_upto_region 2 with fail
 obtain ⟨g,hg⟩:∃ g,g=w.heap.size:=⟨_,rfl⟩
 rw [<- hg]
 generalize hw1:World.alloc w _=w1
 have HM1:=zh (show Mod No w w1 by rw [<- hw1];exact (Mod.refl No w).alloc _)
 have HSL:=zh (show Sl w1 No 9 (.slice (some ⟨g,0,none⟩) 7 7) 7 (strs signs) by
  rw [<- hw1,hg]
  exact Sl.of_own (own_alloc (w:=w) (e:=9) (xs:=strs signs) (by decide)) (fun _ _ f=>f))
 clear hw1 hg
 go_wp2_with fail
 go_loopw [8] (fun q wr=>∃ k:Nat,k<=7/\q=.int .i64 k/\wr=w1/\∀ i:Fin 7,i.1 < k->l.take (signs.getD i.1 []).length ≠ signs.getD i.1 []) (fun q _=>7 - (intOf q).toNat)
 case atStart=>exact ⟨0,by omega,rfl,rfl,fun i hi=>absurd hi (by omega)⟩
 case round =>
  obtain ⟨k,hk,rfl,rfl,hno⟩:=hrel
  have hk0:(0:Int)<=(k:Int):=Int.natCast_nonneg _
  by_cases hlt:k < 7
  ·have hk1:(k:Int) < 7:=by omega
   have hcell:wr.cell? ⟨g,k,none⟩=some (.string ⟨(signs.getD k []).toArray⟩):=by
    have hl:k < (strs signs).length:=hlt
    have:=HSL.out.cellN (i:=k) hl
    rw [Nat.zero_add] at this
    rw [this]
    have h2:signs.getD k []=signs[k]'hlt:=by rw [List.getD_eq_getElem?_getD,List.getElem?_eq_getElem (show k < signs.length from hlt)];rfl
    rw [h2]
    simp [strs,strV]
    rfl
   have HHIT:=zh (show l.take (signs.getD k []).length=signs.getD k []->signL l=signs.getD k [] from fun h=>sign_hit ⟨k,hlt⟩ hno h)
   have HN:=zh (show l.take (signs.getD k []).length ≠ signs.getD k []->∀ i:Fin 7,i.1 < k+1->l.take (signs.getD i.1 []).length ≠ signs.getD i.1 [] from fun h i hi=>by
    rcases Nat.lt_or_ge i.1 k with h3 | h3
    ·exact hno i h3
    ·have:i.1=k:=by omega
     rw [this];exact h)
   clear hno
   generalize signs.getD k []=x at *
   go_wp2_with fail
   with_reducible refine (HHP.out x _).mono ?_
   rintro e w2 ⟨rfl,rfl⟩
   by_cases hb:l.take x.length=x
   ·rw [decide_eq_true hb]
    have hxl:x.length<=l.length:=by
     have:=congrArg List.length hb
     rw [List.length_take] at this
     omega
    have hx1:(x.length:Int)<=(Z.size:Int):=by omega
    have hx0:(0:Int)<=(x.length:Int):=Int.natCast_nonneg _
    have hext:=HEF.out x.length
    have hxs:((⟨x.toArray⟩:ByteArray).size:Int)=(x.length:Int):=by rw [HPL.out]
    have HSG:=zh (HHIT.out hb)
    clear HHIT HN hb
    go_upto_region 5 with fail
    go_quiet (fail)
    go_wp2_with fail
    exact fin hR ⟨(by rw [HSG.out];try rfl),HM1.out.drewN _⟩
   ·rw [decide_eq_false hb]
    have HN2:=zh (HN.out hb)
    clear HHIT HN hb
    go_wp2_with fail
    exact ⟨⟨k+1,by omega,rfl,trivial,HN2.out⟩,by show 7 - ((k:Int)+1).toNat < 7 - (k:Int).toNat;omega⟩
  ·have HNO:=zh (sign_none (l:=l) (fun i=>hno i (by omega)))
   clear hno
   go_wp2_with fail
   refine fin hR ⟨?_,HM1.out⟩
   rw [HNO.out]
   show _=Ending.returned (.tuple #[.string ⟨#[]⟩,.string ⟨(l.drop 0).toArray⟩])
   rw [<- HZE.out]
   rfl
theorem Sl.lenle {X:Nat->Prop} {w:World} {e:TypeId} {v:Value} {n:Nat} {xs:List Value} (h:Sl w X e v n xs):n<=9223372036854775807:=by
 rcases Nat.eq_zero_or_pos n with h0 | h0
 ·omega
 ·obtain ⟨_,_,c,_,h1,h2,_⟩:=h.shape h0
  unfold maxLen at h2
  omega
set_option maxRecDepth 100000 in
set_option maxHeartbeats 4000000 in
theorem strings_eq (l:List (List UInt8)) (va vb:Value) (w:World) (ha:Sl w No 9 va l.length (strs l)) (hb:Sl w No 9 vb l.length (strs l)) :
  Calls prog 18 #[va,vb] w fun e w'=>e=.returned (.bool true)/\Mod No w w':=by
 refine calls_hide fun R hR=>?_
 have hl:=ha.lenle
 obtain ⟨a1,a2,rfl⟩:=ha.len
 obtain ⟨b1,b2,rfl⟩:=hb.len
 have HA:=zh ha
 have HB:=zh hb
 clear ha hb
 go_enter func18,ntmps18
 go_wp2_with fail
 go_loopw [5] (fun q wr=>∃ k:Nat,k<=l.length/\q=.int .i64 (k:Int)/\Mod No w wr) (fun q _=>l.length - (intOf q).toNat)
 case atStart=>exact ⟨0,by omega,rfl,Mod.refl _ _⟩
 case round =>
  obtain ⟨k,hk,rfl,hm⟩:=hrel
  have HM:=zh hm
  have hk0:(0:Int)<=(k:Int):=Int.natCast_nonneg _
  clear hm
  by_cases hlt:k < l.length
  ·have hk1:(k:Int) < (l.length:Int):=by omega
   obtain ⟨p,o,c,hvs,_⟩:=HA.out.shape (by omega)
   cases hvs
   obtain ⟨p2,o2,c2,hvs,_⟩:=HB.out.shape (by omega)
   cases hvs
   have h1:=HM.out.cell (HA.out.cellN (i:=k) (by rw [strs_length];exact hlt)) (fun f=>f)
   have h2:=HM.out.cell (HB.out.cellN (i:=k) (by rw [strs_length];exact hlt)) (fun f=>f)
   rw [show (strs l)[k]'(by rw [strs_length];exact hlt)=.string ⟨l[k].toArray⟩ from by simp [strs,strV]] at h1 h2
   generalize (⟨l[k].toArray⟩:ByteArray)=Z at *
   go_upto_region 6 with fail
   go_quiet (fail)
   generalize hw2:World.drewN wr _=w2
   have HM2:=zh (show Mod No w w2 by rw [<- hw2];exact HM.out.drewN _)
   clear hw2
   go_wp2_with fail
   exact ⟨⟨k+1,by omega,rfl,HM2.out⟩,by show l.length - ((k:Int)+1).toNat < l.length - (k:Int).toNat;omega⟩
  ·have hk1:¬ ((k:Int) < (l.length:Int)):=by omega
   go_wp2_with fail
   exact fin hR ⟨rfl,HM.out⟩
set_option maxRecDepth 100000 in
set_option maxHeartbeats 4000000 in
theorem version_eq (v:Ver) (pa pb:Value) (w:World) (ha:Sl w No 9 pa v.pre.length (strs v.pre)) (hb:Sl w No 9 pb v.pre.length (strs v.pre)) :
  Calls prog 53 #[verV v pa,verV v pb] w fun e w'=>e=.returned (.bool true)/\Mod No w w':=by
 refine calls_hide fun R hR=>?_
 obtain ⟨a1,a2,rfl⟩:=ha.len
 obtain ⟨b1,b2,rfl⟩:=hb.len
 obtain ⟨xa,xb,xc,xp⟩:=v
 have HS:=zh (fun W (hm:Mod No w W)=>strings_eq xp (.slice a1 xp.length a2) (.slice b1 xp.length b2) W (ha.kn hm) (hb.kn hm))
 clear ha hb
 unfold verV at *
 dsimp only at *
 go_enter func53,ntmps53
 go_wp2_with fail
 with_reducible refine (HS.out _ (((Mod.refl No w).alloc _).alloc _)).mono ?_
 rintro e w2 ⟨rfl,hm2⟩
 have HM:=zh ((((Mod.refl No w).alloc (.cells #[.int .i64 xa,.int .i64 xb,.int .i64 xc,.slice a1 xp.length a2] 40)).alloc (.cells #[.int .i64 xa,.int .i64 xb,.int .i64 xc,.slice b1 xp.length b2] 40)).trans hm2)
 clear hm2 HS
 go_wp2_with fail
 exact fin hR ⟨rfl,HM.out⟩
set_option maxRecDepth 100000 in
set_option maxHeartbeats 4000000 in
theorem refof_none (w:World):Calls prog 35 #[.slice none 0 0] w fun e w'=>e=.returned (.agg (bv (sumF [])).toArray)/\Mod No w w':=by
 refine calls_hide fun R hR=>?_
 go_enter func35,ntmps35
 go_upto_region 1 with fail
 rename_i K1 hK1
 obtain ⟨b2,hb2⟩:∃ b,b=w.heap.size:=⟨_,rfl⟩
 rw [<- hb2]
 generalize hw0:World.alloc w _=w0
 have HM0:=zh (show Mod No w w0 by rw [<- hw0];exact (Mod.refl No w).alloc _)
 have HB0:=zh (show w0.heap[b2]? = some (.cells (bv (List.replicate 32 0)).toArray 43 (0,0)) by
  rw [<- hw0,hb2];exact heap_alloc_new w _)
 have HB2:=zh hb2
 clear hw0 hb2
 go_wp2_with fail
 refine wp_loop_rounds 1 ?_
 rw [rounds_succ]
 go_wp2_with fail
 refine (refsum_any [] (.slice none 0 0) _ (by decide) (.inl ⟨rfl,rfl,rfl⟩)).mono ?_
 rintro e w4 ⟨rfl,hm4⟩
 have HM4:=zh (HM0.out.trans hm4)
 have hb4:=hm4.keep HB0.out (fun f=>f)
 have HS:=zh (sumF_length [])
 generalize sumF []=K at *
 clear hm4 HM0 HB0
 go_wp2_with fail
 rw [run_row hb4 (by simp [HS.out]) (bv_one _)]
 obtain ⟨w5,hw5⟩:∃ y,y=w4.setRow b2 (bv K).toArray:=⟨_,rfl⟩
 have hb5:w5.heap[b2]? = some (.cells (bv K).toArray 43 (0,0)):=by rw [hw5];exact setRow_heap _ _ _ _ _ _ hb4
 have HM5:=zh (show Mod No w w5 by rw [hw5];exact HM4.out.setRow (fun h=>by have:=HB2.out;omega) _)
 rw [<- hw5]
 clear hw5 hb4 HM4
 go_wp2_with fail
 exact bodyPost_ret (results_cell_row rfl _ _ b2 43 (bv K).toArray (0,0) _ rfl hb5 underlying43 (by kernel_rfl) (key_size HS.out)) rfl (fin hR ⟨rfl,HM5.out⟩)
theorem cmp_mul (m n:Nat):wrap64 (cmpN (n:Int) (m:Int)*(if ((m:Int) != (n:Int))=true then 1 else 0))=cmpN (n:Int) (m:Int):=by
 by_cases h:m=n
 ·subst h
  rw [if_neg (by simp),show cmpN (m:Int) (m:Int)=0 from cmpN_zero.2 rfl,wrap_tiny (by omega)]
  rfl
 ·rw [if_pos (by simp;omega),Int.mul_one]
  refine wrap_tiny ?_
  unfold cmpN
  split
  ·omega
  ·split <;> omega
set_option maxRecDepth 100000 in
set_option maxHeartbeats 8000000 in
theorem refvercmp_sv (a b:Ver) (ha:Small a) (hb:Small b) (pa pb:Value) (w:World) (hpa:SvX w No pa a.pre.length (strs a.pre)) (hpb:SvX w No pb b.pre.length (strs b.pre)) :
  Calls prog 29 #[verV a pa,verV b pb] w fun e w'=>e=.returned (.int .i64 (verC a b))/\Mod No w w':=by
 refine calls_hide fun R hR=>?_
 obtain ⟨a0,a1,a2,as'⟩:=a
 obtain ⟨b0,b1,b2,bs'⟩:=b
 obtain ⟨va,vc,rfl⟩:=hpa.len
 obtain ⟨ua,uc,rfl⟩:=hpb.len
 have HPA:=zh hpa
 have HPB:=zh hpb
 have HCN:=zh refcmp_any
 have HONE:=zh oneif_any
 have HDG:=zh (fun (x:List UInt8) (h:x.length<=1000000)=>refdigits_any x h)
 have HTX:=zh reftext_any
 have HSA:=zh ha.each
 have HSB:=zh hb.each
 have HLA:=zh ha.len
 have HLB:=zh hb.len
 have hvc:verC ⟨a0,a1,a2,as'⟩ ⟨b0,b1,b2,bs'⟩=if orI [cmpN a0 b0,cmpN a1 b1,cmpN a2 b2]=0 then if as'=[]\/bs'=[] then cmpN bs'.length as'.length else preC as' bs' else orI [cmpN a0 b0,cmpN a1 b1,cmpN a2 b2]:=rfl
 rw [orI_three] at hvc
 have HV0:=zh (show cmpN a0 b0 ≠ 0->verC ⟨a0,a1,a2,as'⟩ ⟨b0,b1,b2,bs'⟩=cmpN a0 b0 from fun h=>by rw [hvc,if_neg h,if_neg h])
 have HV1:=zh (show cmpN a0 b0=0->cmpN a1 b1 ≠ 0->verC ⟨a0,a1,a2,as'⟩ ⟨b0,b1,b2,bs'⟩=cmpN a1 b1 from fun h0 h1=>by rw [hvc,if_pos h0,if_neg h1,if_neg h1])
 have HV2:=zh (show cmpN a0 b0=0->cmpN a1 b1=0->cmpN a2 b2 ≠ 0->verC ⟨a0,a1,a2,as'⟩ ⟨b0,b1,b2,bs'⟩=cmpN a2 b2 from fun h0 h1 h2=>by rw [hvc,if_pos h0,if_pos h1,if_neg h2])
 have HV3:=zh (show cmpN a0 b0=0->cmpN a1 b1=0->cmpN a2 b2=0->verC ⟨a0,a1,a2,as'⟩ ⟨b0,b1,b2,bs'⟩=if as'=[]\/bs'=[] then cmpN bs'.length as'.length else preC as' bs' from fun h0 h1 h2=>by rw [hvc,if_pos h0,if_pos h1,if_pos h2])
 clear hpa hpb ha hb hvc
 dsimp only at HSA HSB HLA HLB HPA HPB
 unfold verV at *
 dsimp only at *
 go_enter func29,ntmps29
 go_upto_region 1 with fail
 obtain ⟨gx,hgx⟩:∃ g,g=w.heap.size:=⟨_,rfl⟩
 obtain ⟨gy,hgy⟩:∃ g,g=gx+1:=⟨_,rfl⟩
 rw [<- hgx,<- hgy]
 obtain ⟨wA,hwA⟩:∃ z,z=(w.alloc (.cells #[.int .i64 a0,.int .i64 a1,.int .i64 a2,.slice va as'.length vc] 40)).alloc (.cells #[.int .i64 b0,.int .i64 b1,.int .i64 b2,.slice ua bs'.length uc] 40):=⟨_,rfl⟩
 have hx1:wA.heap[gx]? = some (.cells #[.int .i64 a0,.int .i64 a1,.int .i64 a2,.slice va as'.length vc] 40 (0,0)):=by rw [hwA,hgx];exact heap_alloc_old _ (heap_alloc_new w _)
 have hy1:wA.heap[gy]? = some (.cells #[.int .i64 b0,.int .i64 b1,.int .i64 b2,.slice ua bs'.length uc] 40 (0,0)):=by
  rw [hwA,hgy,hgx]
  have h1:=heap_alloc_new (w.alloc (.cells #[.int .i64 a0,.int .i64 a1,.int .i64 a2,.slice va as'.length vc] 40)) (.cells #[.int .i64 b0,.int .i64 b1,.int .i64 b2,.slice ua bs'.length uc] 40)
  rw [show (w.alloc (.cells #[.int .i64 a0,.int .i64 a1,.int .i64 a2,.slice va as'.length vc] 40)).heap.size=w.heap.size+1 by simp] at h1
  exact h1
 have HMA:=zh (show Mod No w wA by rw [hwA];exact ((Mod.refl No w).alloc _).alloc _)
 have HPA2:=zh (HPA.out.keep (S:=No) HMA.out (fun _ _ _ f=>f.elim))
 have HPB2:=zh (HPB.out.keep (S:=No) HMA.out (fun _ _ _ f=>f.elim))
 rw [<- hwA]
 have x0:=cell_ofA (i:=0) hx1 rfl
 have x1:=cell_ofA (i:=1) hx1 rfl
 have x2:=cell_ofA (i:=2) hx1 rfl
 have x3:=cell_ofA (i:=3) hx1 rfl
 have y0:=cell_ofA (i:=0) hy1 rfl
 have y1:=cell_ofA (i:=1) hy1 rfl
 have y2:=cell_ofA (i:=2) hy1 rfl
 have y3:=cell_ofA (i:=3) hy1 rfl
 have HX3:=zh x3
 have HY3:=zh y3
 clear hwA hgx hgy hx1 hy1 HPA HPB
 go_wp2_with fail
 with_reducible refine (HCN.out a0 b0 _).mono ?_
 rintro e wB ⟨rfl,hB⟩
 rw [hB]
 clear hB wB
 generalize cmpN a0 b0=c0 at *
 by_cases h0:c0=0
 rotate_left
 ·have h0b:(c0 != 0)=true:=by simpa using h0
  have HV:=zh (HV0.out h0)
  clear HV0 HV1 HV2 HV3
  go_wp2_with fail
  exact fin hR ⟨(by rw [HV.out];try rfl),HMA.out⟩
 have hv1:=HV1.out h0
 have hv2:=HV2.out h0
 have hv3:=HV3.out h0
 clear HV0 HV1 HV2 HV3
 have HV1:=zh hv1
 have HV2:=zh hv2
 have HV3:=zh hv3
 clear hv1 hv2 hv3
 subst h0
 go_wp2_with fail
 with_reducible refine (HCN.out a1 b1 _).mono ?_
 rintro e wB ⟨rfl,hB⟩
 rw [hB]
 clear hB wB
 generalize cmpN a1 b1=c1 at *
 by_cases h1:c1=0
 rotate_left
 ·have h1b:(c1 != 0)=true:=by simpa using h1
  have HV:=zh (HV1.out h1)
  clear HV1 HV2 HV3
  go_wp2_with fail
  exact fin hR ⟨(by rw [HV.out];try rfl),HMA.out⟩
 have hv2:=HV2.out h1
 have hv3:=HV3.out h1
 clear HV1 HV2 HV3
 have HV2:=zh hv2
 have HV3:=zh hv3
 clear hv2 hv3
 subst h1
 go_wp2_with fail
 with_reducible refine (HCN.out a2 b2 _).mono ?_
 rintro e wB ⟨rfl,hB⟩
 rw [hB]
 clear hB wB
 generalize cmpN a2 b2=c2 at *
 by_cases h2:c2=0
 rotate_left
 ·have h2b:(c2 != 0)=true:=by simpa using h2
  have HV:=zh (HV2.out h2)
  clear HV2 HV3
  go_wp2_with fail
  exact fin hR ⟨(by rw [HV.out];try rfl),HMA.out⟩
 have hvc:=HV3.out h2
 clear HV2 HV3
 subst h2
 clear x0 x1 x2 y0 y1 y2
 by_cases he:as'=[]\/bs'=[]
 ·rw [if_pos he,<- cmp_mul] at hvc
  have HV:=zh hvc
  have hle:as'.length=0\/bs'.length=0:=he.imp (fun h=>by rw [h];rfl) (fun h=>by rw [h];rfl)
  clear hvc he HPA2 HPB2 HSA HSB HDG HTX
  generalize as'.length=la at *
  generalize bs'.length=lb at *
  by_cases hla:la=0
  ·subst hla
   by_cases hlb:lb=0
   ·subst hlb
    have hv2:=HV.out
    rw [cmp_mul,show cmpN ((0:Nat):Int) ((0:Nat):Int)=0 from rfl] at hv2
    clear HV
    have HV:=zh hv2
    clear hv2
    go_upto_region 11 with fail
    go_quiet (first | (go_at_call 65;refine Calls.quiet_of_same (HCN.out _ _ _)) | (go_at_call 66;refine Calls.quiet_of_same (HONE.out _ _)))
    go_wp2_with fail
    exact fin hR ⟨(by rw [HV.out];first | done | rfl | simp),HMA.out.drewN _⟩
   ·have hd:((0:Int) != (lb:Int))=true:=by simp;omega
    have hv2:=HV.out
    rw [if_pos (show (((0:Nat):Int) != (lb:Int))=true from hd)] at hv2
    clear HV
    have HV:=zh hv2
    clear hv2
    go_upto_region 11 with fail
    go_quiet (first | (go_at_call 65;refine Calls.quiet_of_same (HCN.out _ _ _)) | (go_at_call 66;refine Calls.quiet_of_same (HONE.out _ _)))
    go_wp2_with fail
    exact fin hR ⟨(by rw [HV.out];first | done | rfl | simp),HMA.out.drewN _⟩
  ·obtain rfl:=hle.resolve_left hla
   have e1:((la:Int) == 0)=false:=by simpa using hla
   have hd:((la:Int) != (0:Int))=true:=by simpa using hla
   have hv2:=HV.out
   rw [if_pos (show ((la:Int) != ((0:Nat):Int))=true from hd)] at hv2
   clear HV
   have HV:=zh hv2
   clear hv2
   go_upto_region 11 with fail
   go_quiet (first | (go_at_call 65;refine Calls.quiet_of_same (HCN.out _ _ _)) | (go_at_call 66;refine Calls.quiet_of_same (HONE.out _ _)))
   go_wp2_with fail
   exact fin hR ⟨(by rw [HV.out];first | done | rfl | simp),HMA.out.drewN _⟩
 ·rw [if_neg he] at hvc
  have HV:=zh hvc
  have e1:((as'.length:Int) == 0)=false:=by
   rw [beq_eq_false_iff_ne]
   intro h
   exact he (.inl (List.eq_nil_of_length_eq_zero (by omega)))
  have e2:((bs'.length:Int) == 0)=false:=by
   rw [beq_eq_false_iff_ne]
   intro h
   exact he (.inr (List.eq_nil_of_length_eq_zero (by omega)))
  clear hvc he HONE
  go_wp2_with fail
  clear x3 y3
  go_loopw [8] (fun q wr=>∃ k:Nat,k<=as'.length/\k<=bs'.length/\q=.int .i64 k/\Mod No wA wr/\∀ i (h1:i < as'.length) (h2:i < bs'.length),i < k->markC as'[i] bs'[i]=0) (fun q _=>as'.length - (intOf q).toNat)
  case atStart=>exact ⟨0,by omega,by omega,rfl,Mod.refl _ _,fun i _ _ hi=>absurd hi (by omega)⟩
  case round =>
   obtain ⟨k,hk,hky,rfl,hmod,hno⟩:=hrel
   have HM:=zh hmod
   have HNO:=zh hno
   have hk0:(0:Int)<=(k:Int):=Int.natCast_nonneg _
   have x3:=hmod.cell HX3.out (fun f=>f)
   have y3:=hmod.cell HY3.out (fun f=>f)
   clear hmod hno
   by_cases hlt:k < as'.length/\k < bs'.length
   ·obtain ⟨hlx,hly⟩:=hlt
    have hk1:(k:Int) < (as'.length:Int):=by omega
    have hk2:(k:Int) < (bs'.length:Int):=by omega
    have hwk:wrap64 ((k:Int)+1)=(k:Int)+1:=by unfold wrap64;have:=HLA.out;omega
    obtain ⟨bk,bo,bc,hvs,_⟩:=HPA2.out.shape (by omega)
    cases hvs
    obtain ⟨ck,co,cc,hus,_⟩:=HPB2.out.shape (by omega)
    cases hus
    have hcell:=HM.out.cell (HPA2.out.cellN (i:=k) (by rw [strs_length];exact hlx)) (fun f=>f)
    rw [show (strs as')[k]'(by rw [strs_length];exact hlx)=.string ⟨as'[k].toArray⟩ from by simp [strs,strV]] at hcell
    have hcell2:=HM.out.cell (HPB2.out.cellN (i:=k) (by rw [strs_length];exact hly)) (fun f=>f)
    rw [show (strs bs')[k]'(by rw [strs_length];exact hly)=.string ⟨bs'[k].toArray⟩ from by simp [strs,strV]] at hcell2
    have HN:=zh (show markC as'[k] bs'[k]=0->∀ i (h1:i < as'.length) (h2:i < bs'.length),i < k+1->markC as'[i] bs'[i]=0 from fun h i h1 h2 hik=>by
     rcases Nat.lt_or_ge i k with h3 | h3
     ·exact HNO.out i h1 h2 h3
     ·obtain rfl:i=k:=by omega
      exact h)
    have HH:=zh (show markC as'[k] bs'[k] ≠ 0->verC ⟨a0,a1,a2,as'⟩ ⟨b0,b1,b2,bs'⟩=markC as'[k] bs'[k] from fun h=>by rw [HV.out];exact preC_hit hlx hly HNO.out h)
    have hsx:=HSA.out _ (List.getElem_mem hlx)
    have hsy:=HSB.out _ (List.getElem_mem hly)
    have HMK:=zh (show markC as'[k] bs'[k]=if digitsB as'[k] && digitsB bs'[k] then orI [cmpN as'[k].length bs'[k].length,cmpL as'[k] bs'[k]] else if digitsB as'[k] then -1 else if digitsB bs'[k] then 1 else cmpL as'[k] bs'[k] from rfl)
    have HDX:=zh (HDG.out _ hsx)
    have HDY:=zh (HDG.out _ hsy)
    have HTT:=zh (HTX.out as'[k] bs'[k])
    clear HNO hsx hsy HTX HDG
    generalize markC as'[k] bs'[k]=mk at *
    generalize digitsB as'[k]=dx at *
    generalize digitsB bs'[k]=dy at *
    generalize as'[k]=X at *
    generalize bs'[k]=Y at *
    go_upto_region 15 with fail
    go_quiet (fail)
    generalize hw2:World.drewN wr _=w2
    have HM2:=zh (show Mod No wA w2 by rw [<- hw2];exact HM.out.drewN _)
    clear hw2
    go_wp2_with fail
    with_reducible refine (HDX.out _).mono ?_
    rintro e wB ⟨rfl,hB⟩
    rw [hB]
    clear hB wB
    rcases dx with _ | _
    ·go_wp2_with fail
     with_reducible refine (HDX.out _).mono ?_
     rintro e wB ⟨rfl,hB⟩
     rw [hB]
     clear hB wB
     go_wp2_with fail
     with_reducible refine (HDY.out _).mono ?_
     rintro e wB ⟨rfl,hB⟩
     rw [hB]
     clear hB wB
     rcases dy with _ | _
     ·have em:cmpL X Y=mk:=by rw [HMK.out];rfl
      have htt:=HTT.out
      rw [em] at htt
      have HTU:=zh htt
      clear htt HTT
      go_wp2_with fail
      with_reducible refine (HTU.out _).mono ?_
      rintro e wB ⟨rfl,hB⟩
      rw [hB]
      clear hB wB
      by_cases h0:mk=0
      ·have hn:=HN.out h0
       have HN2:=zh hn
       clear hn HN HH HMK
       subst h0
       go_wp2_with fail
       try rw [hwk]
       exact ⟨⟨k+1,by omega,by omega,rfl,HM2.out,HN2.out⟩,by show as'.length - ((k:Int)+1).toNat < as'.length - (k:Int).toNat;omega⟩
      ·have HH2:=zh (HH.out h0)
       have h0b:(mk != 0)=true:=by simpa using h0
       clear HN HH HMK
       go_wp2_with fail
       exact fin hR ⟨(by rw [HH2.out];try rfl),HMA.out.trans HM2.out⟩
     ·obtain rfl:mk=1:=by rw [HMK.out];rfl
      have HH2:=zh (HH.out (by decide))
      clear HN HH HMK
      go_wp2_with fail
      exact fin hR ⟨(by rw [HH2.out];try rfl),HMA.out.trans HM2.out⟩
    ·go_wp2_with fail
     with_reducible refine (HDY.out _).mono ?_
     rintro e wB ⟨rfl,hB⟩
     rw [hB]
     clear hB wB
     rcases dy with _ | _
     ·go_wp2_with fail
      with_reducible refine (HDX.out _).mono ?_
      rintro e wB ⟨rfl,hB⟩
      rw [hB]
      clear hB wB
      obtain rfl:mk = -1:=by rw [HMK.out];rfl
      have HH2:=zh (HH.out (by decide))
      clear HN HH HMK
      go_wp2_with fail
      exact fin hR ⟨(by rw [HH2.out];try rfl),HMA.out.trans HM2.out⟩
     ·have em:mk=if cmpN X.length Y.length=0 then cmpL X Y else cmpN X.length Y.length:=by rw [HMK.out];exact orI_two _ _
      have HEM:=zh em
      clear em
      have hxs:((⟨X.toArray⟩:ByteArray).size:Int)=(X.length:Int):=by rw [str_len3]
      have hys:((⟨Y.toArray⟩:ByteArray).size:Int)=(Y.length:Int):=by rw [str_len3]
      have HCC:=zh (HCN.out (X.length:Int) (Y.length:Int))
      generalize cmpN (X.length:Int) (Y.length:Int)=cn at *
      go_wp2_with fail
      with_reducible refine (HCC.out _).mono ?_
      rintro e wB ⟨rfl,hB⟩
      rw [hB]
      clear hB wB
      by_cases hc0:cn=0
      ·have em:cmpL X Y=mk:=by rw [HEM.out,if_pos hc0]
       clear HEM
       subst hc0
       have htt:=HTT.out
       rw [em] at htt
       have HTU:=zh htt
       clear htt HTT
       go_wp2_with fail
       with_reducible refine (HTU.out _).mono ?_
       rintro e wB ⟨rfl,hB⟩
       rw [hB]
       clear hB wB
       by_cases h0:mk=0
       ·have hn:=HN.out h0
        have HN2:=zh hn
        clear hn HN HH HMK
        subst h0
        go_wp2_with fail
        try rw [hwk]
        exact ⟨⟨k+1,by omega,by omega,rfl,HM2.out,HN2.out⟩,by show as'.length - ((k:Int)+1).toNat < as'.length - (k:Int).toNat;omega⟩
       ·have HH2:=zh (HH.out h0)
        have h0b:(mk != 0)=true:=by simpa using h0
        clear HN HH HMK
        go_wp2_with fail
        exact fin hR ⟨(by rw [HH2.out];try rfl),HMA.out.trans HM2.out⟩
      ·obtain rfl:mk=cn:=by rw [HEM.out,if_neg hc0]
       have hc0b:((mk:Int) == 0)=false:=by simpa using hc0
       clear HEM
       by_cases h0:mk=0
       ·exact absurd h0 hc0
       ·have HH2:=zh (HH.out h0)
        have h0b:(mk != 0)=true:=by simpa using h0
        clear HN HH HMK
        go_wp2_with fail
        exact fin hR ⟨(by rw [HH2.out];try rfl),HMA.out.trans HM2.out⟩
   ·have HE:=zh (show verC ⟨a0,a1,a2,as'⟩ ⟨b0,b1,b2,bs'⟩=cmpN as'.length bs'.length by
     rw [HV.out]
     exact preC_end hk hky (by omega) HNO.out)
    clear HNO
    by_cases hkx:k < as'.length
    ·have hk1:(k:Int) < (as'.length:Int):=by omega
     have hk2:(bs'.length:Int)<=(k:Int):=by omega
     go_wp2_with fail
     with_reducible refine (HCN.out (as'.length:Int) (bs'.length:Int) _).mono ?_
     rintro e wB ⟨rfl,hB⟩
     rw [hB]
     clear hB wB
     go_wp2_with fail
     exact fin hR ⟨(by rw [HE.out];try rfl),HMA.out.trans HM.out⟩
    ·have hk1:(as'.length:Int)<=(k:Int):=by omega
     go_wp2_with fail
     with_reducible refine (HCN.out (as'.length:Int) (bs'.length:Int) _).mono ?_
     rintro e wB ⟨rfl,hB⟩
     rw [hB]
     clear hB wB
     go_wp2_with fail
     exact fin hR ⟨(by rw [HE.out];try rfl),HMA.out.trans HM.out⟩
theorem refvercmp_any (a b:Ver) (ha:Small a) (hb:Small b) (pa pb:Value) (w:World) (hpa:Sl w No 9 pa a.pre.length (strs a.pre)) (hpb:Sl w No 9 pb b.pre.length (strs b.pre)) :
  Calls prog 29 #[verV a pa,verV b pb] w fun e w'=>e=.returned (.int .i64 (verC a b))/\Mod No w w' :=
 refvercmp_sv a b ha hb pa pb w (.of hpa) (.of hpb)
end Go.Proofs.YtgiigemfbebcgaaGreatDoor
