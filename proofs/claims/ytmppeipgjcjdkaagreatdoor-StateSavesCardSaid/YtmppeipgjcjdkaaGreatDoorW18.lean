/-
  Layers 0 to 14: helps of the laws of indexes. No statement is proved here; no condition.
-/
import Derived.Test.YtmppeipgjcjdkaaGreatDoorW17
import Derived.OwnWalk
namespace Go.Proofs.YtmppeipgjcjdkaaGreatDoor
open _root_.Go.Proofs.Tryz
open Go.RowKit
theorem rd_cases {S:Nat->List UInt8} {h size side at_ next:Nat} (ha:at_ < h) :
  (¬ (((S (side*h+at_)).take size).take 8=sign/\getN ((((S (side*h+at_)).take size).drop 16).take 8)=next/\getN (((S (side*h+at_)).drop size).take 8)=getN ((((S (side*h+at_)).take size).drop 8).take 8) ∧
    getN (((S (side*h+at_)).drop size).drop 8)=(next+1) % 18446744073709551616/\getN ((((S (side*h+at_)).take size).drop 24).take 8)+32<=(h - at_)*size)->rd S h size side at_ next=none) ∧
  ((((S (side*h+at_)).take size).take 8=sign/\getN ((((S (side*h+at_)).take size).drop 16).take 8)=next/\getN (((S (side*h+at_)).drop size).take 8)=getN ((((S (side*h+at_)).take size).drop 8).take 8) ∧
    getN (((S (side*h+at_)).drop size).drop 8)=(next+1) % 18446744073709551616/\getN ((((S (side*h+at_)).take size).drop 24).take 8)+32<=(h - at_)*size)->rd S h size side at_ next =
   (parse (getN ((((S (side*h+at_)).take size).drop 24).take 8)) (((rdAll S (side*h+at_) size (secs size (32+getN ((((S (side*h+at_)).take size).drop 24).take 8)))).drop 32).take (getN ((((S (side*h+at_)).take size).drop 24).take 8)))).map
    fun rs=>(getN ((((S (side*h+at_)).take size).drop 8).take 8),rs,at_+secs size (32+getN ((((S (side*h+at_)).take size).drop 24).take 8)))):=by
 unfold rd
 rw [if_pos ha]
 exact ⟨fun h=>if_neg h,fun h=>if_pos h⟩
theorem rdAll_len {S:Nat->List UInt8} {base size:Nat}:∀ k,(∀ i,i < k->size<=(S (base+i)).length)->(rdAll S base size k).length=k*size
 | 0,_=>by simp [rdAll]
 | k+1,h=>by
  rw [rdAll_succ,List.length_append,rdAll_len k fun i hi=>h i (by omega),List.length_take,Nat.min_eq_left (h k (by omega)),Nat.succ_mul]
theorem wp_thenQ {P:Program} {s:Code} {R K:Act->World->Prop} {Q1 Q:Exit->Act->World->Prop} {a:Act} {w:World} (h:s.wp P (Exit.then R Q1) a w) (hR:∀ a' w',R a' w'->K a' w') (hQ:∀ e a' w',Q1 e a' w'->Q e a' w'):s.wp P (Exit.then K Q) a w:=by
 refine wp_mono h ?_
 intro e a' w' hq
 cases e with
 | normal=>exact hR _ _ hq
 | exit id=>exact hQ _ _ _ hq
 | goto l=>exact hQ _ _ _ hq
 | ret=>exact hQ _ _ _ hq
 | panic ch=>exact hQ _ _ _ hq
 | outgrown=>exact hQ _ _ _ hq
set_option maxRecDepth 100000 in
set_option maxHeartbeats 4000000 in
theorem open_ok {b sb mb p:Nat} {d:Dk} {w:World} (side at_ next:Nat) (hs:side < 2) (ha:at_ < d.n / 2) (hnx:next+1 < 18446744073709551616) (hz:128<=d.sz) (hw:Well d) (h:DkAt w No b sb mb d) (c0:w.cell? ⟨p,0,none⟩=some (.pointer (some ⟨b,0,none⟩))) :
  Calls prog 64 #[.pointer (some ⟨p,0,none⟩),.int .i64 (side:Int),.int .i64 (at_:Int),.int .u64 (next:Int)] w fun e w' =>
   (match rd d.last (d.n / 2) (d.sz - 16) side at_ next with
    | some (t,rs,beh)=>∃ v,e=.returned (.tuple #[.int .u64 (t:Int),v,.int .i64 (beh:Int)])/\OwnRecs w' w.heap.size v rs
    | none=>e=Stopped)/\Mod No w w':=by
 refine calls_hide fun R hR=>?_
 obtain ⟨m,hm⟩:∃ m,d.sz=m+16:=⟨d.sz - 16,by have:=h.s1;omega⟩
 have hm1:112<=m:=by omega
 have hm2:m<=4080:=by have:=h.s2;omega
 have hn2:d.n<=4096:=h.n2
 have hsm:d.sz - 16=m:=by omega
 have HSEC:=sector_yes (p:=p) side at_ hs ha hw h c0
 obtain ⟨x,hx⟩:∃ x,x=d.last (side*(d.n / 2)+at_):=⟨_,rfl⟩
 have hxl:x.length=m+16:=by
  rw [hx,<- hm]
  refine h.lenL ?_
  have h1:side=0\/side=1:=by omega
  rcases h1 with g | g
  ·subst g;omega
  ·subst g;omega
 rw [<- hx,hm] at HSEC
 have HSEC:=zh HSEC
 have HD:=zh h
 have HC:=zh c0
 have HWELL:=zh hw
 have HXL:=zh hxl
 have HX:=zh hx
 have HM:=zh hm
 have HSM:=zh hsm
 have hH:d.n / 2<=2048:=by omega
 have HN2:=zh hn2
 have HRD:=(rd_cases (S:=d.last) (h:=d.n / 2) (size:=d.sz - 16) (side:=side) (at_:=at_) (next:=next) ha)
 rw [hsm,<- hx] at HRD
 have HRD:=zh HRD
 have h3:∀ k,Own3 b sb mb k->k < w.heap.size:=fun k e=>h.lt e
 have hpw:p < w.heap.size:=lt_of_cell c0
 have H3:=zh (And.intro h3 hpw)
 have hlen:∀ i,i < d.n / 2->(d.last (side*(d.n / 2)+i)).length=m+16:=fun i hi=>by
  rw [<- hm]
  refine h.lenL ?_
  have h1:side=0\/side=1:=by omega
  rcases h1 with g | g
  ·subst g;omega
  ·subst g;omega
 have HLEN:=zh hlen
 clear h c0 hw hx hm hsm hn2 hxl h3 hpw hlen
 go_enter func64,ntmps64
 go_wp2_with fail
 refine HSEC.out.mono ?_
 clear HSEC
 rintro e w1 ⟨v,rfl,hm1',ho1⟩
 obtain ⟨g,cap,rfl,hgb⟩:=own_shape ho1 (by omega)
 have hsl:=Sl.of_own (X:=fun k=>k < w.heap.size) ho1 (fun _ h1 h2=>by omega)
 obtain ⟨_,_,_,hsh,hcap1,hcap2,_⟩:=hsl.shape (by omega)
 cases hsh
 have hB:=hsl.takeN (m:=m) (by rw [bv_length,HXL.out]) (by omega)
 rw [<- bv_take] at hB
 have hE:=hsl.part (by rw [bv_length,HXL.out]) m 16 (cap - m) (by omega) (by omega) (by omega)
 rw [<- bv_drop,<- bv_take,List.take_of_length_le (by rw [List.length_drop,HXL.out];omega),Nat.zero_add] at hE
 have hbl:(x.take m).length=m:=by rw [List.length_take,HXL.out];omega
 have hel:(x.drop m).length=16:=by rw [List.length_drop,HXL.out];omega
 have M1:=zh hm1'
 have HSL:=zh hsl
 have HB:=zh hB
 have field:∀ o,o+8<=32->∀ wq,Mod No w1 wq->Calls prog 126 #[.slice (some ⟨g,o,none⟩) 8 (cap - o)] wq fun e w'=>e=.returned (.int .u64 ((getN (((x.take m).drop o).take 8):Nat):Int))/\w'=wq:=fun o ho wq hq=>by
  have h1:=hB.part (by rw [bv_length,hbl]) o 8 (cap - o) (by omega) (by omega) (by omega)
  rw [<- bv_drop,<- bv_take,Nat.zero_add] at h1
  have h2:(((x.take m).drop o).take 8).length=8:=by rw [List.length_take,List.length_drop,hbl];omega
  exact get_any (X:=fun k=>k < w.heap.size) 5 _ _ _ (by rw [h2];exact h1.kn hq) (by omega)
 have tailf:∀ o,o+8<=16->∀ wq,Mod No w1 wq->Calls prog 126 #[.slice (some ⟨g,m+o,none⟩) 8 (cap - m - o)] wq fun e w'=>e=.returned (.int .u64 ((getN (((x.drop m).drop o).take 8):Nat):Int))/\w'=wq:=fun o ho wq hq=>by
  have h1:=hE.part (by rw [bv_length,hel]) o 8 (cap - m - o) (by omega) (by omega) (by omega)
  rw [<- bv_drop,<- bv_take] at h1
  have h2:(((x.drop m).drop o).take 8).length=8:=by rw [List.length_take,List.length_drop,hel];omega
  exact get_any (X:=fun k=>k < w.heap.size) 5 _ _ _ (by rw [h2];exact h1.kn hq) (by omega)
 have G8:=zh (field 8 (by omega))
 have G16:=zh (field 16 (by omega))
 have G24:=zh (field 24 (by omega))
 have E0:=tailf 0 (by omega)
 simp only [Nat.add_zero,Nat.sub_zero,List.drop_zero] at E0
 have E0:=zh E0
 have E8:=zh (tailf 8 (by omega))
 have e16:((x.drop m).drop 8).take 8=(x.drop m).drop 8:=List.take_of_length_le (by rw [List.length_drop,hel];omega)
 rw [e16] at E8
 have HSZ:=zh (show ∀ wq,Mod No w1 wq->Calls prog 125 #[.pointer (some ⟨p,0,none⟩)] wq fun e w'=>e=.returned (.int .i64 (m:Int))/\w'=wq from fun wq hq=>by
  have:=lsize_any (p:=p) (HD.out.stay (hm1'.trans hq)) ((hm1'.trans hq).cell HC.out (fun f=>f))
  rw [HSM.out] at this
  exact this)
 obtain ⟨Z,hZ⟩:∃ Z:ByteArray,Z=⟨((x.take m).take 8).toArray⟩:=⟨_,rfl⟩
 have hcv:∀ wq,Mod No w1 wq->(convert 41 9 (.slice (some ⟨g,0,none⟩) 8 cap)).run prog wq=.ok (.string Z) wq:=fun wq hq=>by
  rw [hZ]
  have h1:=hB.takeN (m:=8) (by rw [bv_length,hbl]) (by omega)
  rw [<- bv_take] at h1
  have h2:((x.take m).take 8).length=8:=by rw [List.length_take,hbl];omega
  have h3:=string_of (P:=prog) (src:=41) (dst:=9) (e:=5) (l:=(x.take m).take 8) (v:=.slice (some ⟨g,0,none⟩) 8 cap) (w:=wq) (X:=fun k=>k < w.heap.size) (e':=5) (by rw [h2];exact h1.kn hq) underlying41 underlying5 underlying9
  exact h3
 have HZ:=zh hZ
 have HCV:=zh hcv
 have hc16:((m:Int)+16)<=(cap:Int):=by omega
 have hm0:(112:Int)<=(m:Int):=by omega
 have k8:(8:Int)<=(cap:Int):=by omega
 have k16:(16:Int)<=(cap:Int):=by omega
 have k24:(24:Int)<=(cap:Int):=by omega
 have k32:(32:Int)<=(cap:Int):=by omega
 have n8:¬ cap=8:=by omega
 have n16:¬ cap=16:=by omega
 have n24:¬ cap=24:=by omega
 clear hcv hm1' ho1 hsl hB hE field tailf hZ e16 hbl hel
 generalize getN (((x.take m).drop 8).take 8)=T at *
 generalize getN (((x.take m).drop 16).take 8)=NX at *
 generalize getN (((x.take m).drop 24).take 8)=N at *
 generalize getN ((x.drop m).take 8)=T2 at *
 generalize getN ((x.drop m).drop 8)=N2 at *
 go_upto_region 2 with fail
 go_quiet (first | (go_at_call 125;refine Calls.quiet_of_same (HSZ.out _ ((Mod.refl No w1).drewN _))))
 generalize hw2:World.drewN w1 _=w2
 have HM2:=zh (show Mod No w1 w2 by rw [<- hw2];exact (Mod.refl No w1).drewN _)
 clear hw2
 go_upto_region 3 with fail
 go_quiet (first | (go_at_call 126;with_reducible refine Calls.quiet_of_same (G8.out _ (HM2.out.drewN _))) | (go_at_call 126;with_reducible refine Calls.quiet_of_same (G24.out _ (HM2.out.drewN _))))
 generalize hwq:World.drewN w2 _=wq
 have hMq:Mod No w1 wq:=by rw [<- hwq];exact HM2.out.drewN _
 have HMQ:=zh hMq
 have hcv:=HCV.out wq hMq
 clear hwq hMq
 go_upto_region 4 with fail
 have hZL:Z.toList=(x.take m).take 8:=by rw [HZ.out,ByteArray.toList_eq]
 by_cases hsg:(x.take m).take 8=sign
 ·have hZ2:Z.toList=[72,65,86,69,82,83,65,75]:=by rw [hZL,hsg];rfl
  clear hZL HZ HCV
  by_cases hnx2:NX=next
  ·have HSG:=zh hsg
   subst hnx2
   go_wp2_with fail
   with_reducible refine (G16.out _ HMQ.out).mono ?_
   rintro e w3 ⟨rfl,h2⟩
   subst h2
   go_wp2_with fail
   refine (must_yes 0 _).mono ?_
   rintro e w3 ⟨rfl,h2⟩
   subst h2
   by_cases ht:T2=T
   ·subst ht
    have hnx':(NX:Int)+1<=18446744073709551615:=by omega
    by_cases hn2:N2=NX+1
    ·subst hn2
     go_wp2_with fail
     with_reducible refine (E0.out _ HMQ.out).mono ?_
     rintro e w3 ⟨rfl,h2⟩
     subst h2
     go_wp2_with fail
     with_reducible refine (E8.out _ HMQ.out).mono ?_
     rintro e w3 ⟨rfl,h2⟩
     subst h2
     go_wp2_with fail
     refine (must_yes 0 _).mono ?_
     rintro e w3 ⟨rfl,h2⟩
     subst h2
     obtain ⟨P,hP⟩:∃ P,P=(d.n / 2 - at_)*m:=⟨_,rfl⟩
     have hP1:m<=P:=by rw [hP];exact Nat.le_mul_of_pos_left m (by omega)
     have hP2:P<=2048*4080:=by rw [hP];exact Nat.mul_le_mul (by omega) hm2
     have HMO:=most_any (p:=p) (w:=w3) at_ (by omega) (HD.out.stay (M1.out.trans HMQ.out)) ((M1.out.trans HMQ.out).cell HC.out (fun f=>f))
     rw [HSM.out,<- hP] at HMO
     have HMO:=zh HMO
     have HPP:=zh hP
     clear hP
     go_wp2_with fail
     refine HMO.out.mono ?_
     clear HMO
     rintro e w4 ⟨rfl,h2⟩
     subst h2
     by_cases hN:N+32<=P
     ·have hN1:decide ((N:Int)<=(P:Int) - 32)=true:=decide_eq_true (by omega)
      go_wp2_with fail
      refine (must_yes 0 _).mono ?_
      rintro e w5 ⟨rfl,h2⟩
      subst h2
      obtain ⟨K,hK⟩:∃ K,K=secs m (32+N):=⟨_,rfl⟩
      have hK1:1<=K:=by rw [hK];exact secs_pos (by omega)
      have hK2:at_+K<=d.n / 2:=by
       have:K<=d.n / 2 - at_:=by rw [hK];exact secs_le (by omega) (by rw [<- HPP.out];omega)
       omega
      have hK3:32+N<=K*m:=by rw [hK];exact secs_up (by omega)
      have hK4:K*m<=2048*4080:=Nat.mul_le_mul (by omega) hm2
      have MQ:=zh (M1.out.trans HMQ.out)
      have HLS:=lsecs_any (p:=p) (w:=w5) (32+N) (by omega) (HD.out.stay MQ.out) (MQ.out.cell HC.out (fun f=>f))
      rw [HSM.out,<- hK,show (((32+N:Nat)):Int)=32+(N:Int) by omega] at HLS
      have HLS:=zh HLS
      have HKK:=zh hK
      have HBQ:=zh (HB.out.kn HMQ.out)
      clear hK
      have hN0:(N:Int)<=8355840:=by omega
      go_wp2_with fail
      refine HLS.out.mono ?_
      clear HLS
      rintro e w6 ⟨rfl,hm6⟩
      have M6:=zh (MQ.out.trans hm6)
      have hbl:(x.take m).length=m:=by rw [List.length_take,HXL.out];omega
      have HCL:=clone_bytes (fun k=>k < w.heap.size) (.slice (some ⟨g,0,none⟩) m cap) (bv (x.take m)) w6 (by rw [bv_length,hbl];exact HBQ.out.kn hm6) (bv_one _) (by rw [bv_length,hbl];omega)
      have HCL:=zh HCL
      clear hm6 hbl HBQ HB HSL HSZ E0 E8 G16 G8 G24 hcv
      go_wp2_with fail
      refine HCL.out.mono ?_
      clear HCL
      rintro e w7 ⟨v8,rfl,hown8,_,hm7⟩
      have hx1:rdAll d.last (side*(d.n / 2)+at_) m 1=x.take m:=by rw [rdAll_succ,HX.out];simp [rdAll]
      have HO8:=zh (show w7.ownsRow w6.heap.size 5 1 v8 (rdAll d.last (side*(d.n / 2)+at_) (d.sz - 16) 1).length (bv (rdAll d.last (side*(d.n / 2)+at_) (d.sz - 16) 1)) by
       rw [HSM.out,hx1];rw [bv_length] at hown8;exact hown8)
      have HD7:=zh (((HD.out.stay M6.out).avoid.stay hm7).shrink (Y:=fun k=>w6.heap.size<=k) fun q _ e=>.inr e)
      have HC7:=zh ((M6.out.trans hm7).cell HC.out (fun f=>f))
      have HS7:=zh hm7.size
      have M7:=zh (M6.out.trans hm7)
      have hws:=M6.out.size
      clear hown8 hm7 hx1 HC HD
      go_upto_block 0 with fail
      refine wp_only (secs_any (p:=p) side at_ (at_+K) v8 _ _ _ _ _ w6.heap.size hs (by omega) hK2 HWELL.out HD7.out (fun k e=>by have:=H3.out.1 k e;omega) (by have:=H3.out.2;omega) HC7.out HS7.out HO8.out ⟨rfl,rfl,rfl,rfl,rfl,rfl,rfl,rfl,rfl,by go_num,rfl,trivial⟩) ?_
      clear HO8 HD7 HC7
      rintro a' w8 ⟨⟨v9,hown9,hF9⟩,hm8⟩
      rw [HSM.out,show at_+K - at_=K by omega] at hown9
      have hal:(rdAll d.last (side*(d.n / 2)+at_) m K).length=K*m:=rdAll_len K fun i hi=>by
       rw [Nat.add_assoc,HLEN.out _ (by omega)];omega
      obtain ⟨A,hA⟩:∃ A,A=rdAll d.last (side*(d.n / 2)+at_) m K:=⟨_,rfl⟩
      rw [<- hA] at hown9 hal
      have HA:=zh hA
      have M8:=zh (M7.out.then hm8 fun i hi e=>by omega)
      rw [hal] at hown9
      have hKm:112<=K*m:=Nat.le_trans hm1 (Nat.le_mul_of_pos_left m hK1)
      obtain ⟨g9,cap9,rfl,_⟩:=own_shape hown9 (by omega)
      have hsl9:=Sl.of_own (X:=No) hown9 (fun _ _ f=>f)
      obtain ⟨_,_,_,hsh9,hcap91,hcap92,_⟩:=hsl9.shape (by omega)
      cases hsh9
      have hLl:((A.drop 32).take N).length=N:=by rw [List.length_take,List.length_drop,hal];omega
      have hrest:=hsl9.part (by rw [bv_length,hal]) 32 N (cap9 - 32) (by omega) (by omega) (by omega)
      rw [<- bv_drop,<- bv_take,Nat.zero_add] at hrest
      have HRE:=zh (show Sl w8 No 5 (.slice (some ⟨g9,32,none⟩) N (cap9 - 32)) ((A.drop 32).take N).length (bv ((A.drop 32).take N)) by rw [hLl];exact hrest)
      have HLL:=zh hLl
      have HAL:=zh hal
      have hw8:=M8.out.size
      have c32:(32:Int)<=(cap9:Int):=by omega
      have c33:(32:Int)+(N:Int)<=(cap9:Int):=by omega
      have c34:¬ cap9=32:=by omega
      clear hown9 hsl9 hrest hA hal hLl hm8
      generalize K*m=KM at *
      obtain ⟨ts,ds⟩:=a'
      obtain ⟨hsz,hds,hs0,hs1,hs2,hs3,hs12,hs14,hs15,hs16,-⟩:=hF9
      dsimp only at hsz hds hs0 hs1 hs2 hs3 hs12 hs14 hs15 hs16
      subst hds
      obtain ⟨c,rfl,hc⟩:=lit135 ts hsz
      rw [hc] at hs0
      rw [hc] at hs1
      rw [hc] at hs2
      rw [hc] at hs3
      rw [hc] at hs12
      rw [hc] at hs14
      rw [hc] at hs15
      rw [hc] at hs16
      simp only [hs0,hs1,hs2,hs3,hs12,hs14,hs15,hs16]
      clear hc hsz hs0 hs1 hs2 hs3 hs12 hs14 hs15 hs16
      go_upto_block 2 with fail
      refine wp_thenQ (recs_any w8 w.heap.size _ _ _ ((A.drop 32).take N) _ hw8 (by rw [HLL.out];omega) HRE.out ⟨rfl,rfl,rfl,rfl,rfl,by rw [show 32+N - 32=N by omega];rfl,trivial⟩) ?_ ?_
      ·rintro a2 w9 ⟨⟨rs,v10,hpar,hrecs,hF10⟩,hm9⟩
       obtain ⟨ts,ds⟩:=a2
       obtain ⟨hsz,hds,hs14,hs16,hs18,-⟩:=hF10
       dsimp only at hsz hds hs14 hs16 hs18
       subst hds
       obtain ⟨c,rfl,hc⟩:=lit135 ts hsz
       rw [hc] at hs14
       rw [hc] at hs16
       rw [hc] at hs18
       simp only [hs14,hs16,hs18]
       clear hc hsz hs14 hs16 hs18
       have HR9:=zh hrecs
       have HPA:=zh hpar
       have M9:=zh (M8.out.then hm9 fun i hi e=>by omega)
       clear hrecs hpar hm9
       go_wp2_with fail
       go_ret3
       refine fin hR ⟨?_,M9.out⟩
       have hp:=HPA.out
       rw [HLL.out,HA.out,HKK.out] at hp
       rw [HSM.out,HRD.out.2 ⟨HSG.out,by trivial,by trivial,by rw [Nat.mod_eq_of_lt hnx],by rw [<- HPP.out];exact hN⟩,hp,<- HKK.out]
       exact ⟨v10,rfl,HR9.out⟩
      ·rintro e a2 w9 hq
       cases e with
       | panic ch =>
        obtain ⟨rfl,hd,hpn,hm9⟩:=hq
        refine ⟨hd,fin hR ⟨?_,M8.out.then hm9 fun i hi e=>by omega⟩⟩
        rw [HLL.out,HA.out,HKK.out] at hpn
        rw [HSM.out,HRD.out.2 ⟨HSG.out,by trivial,by trivial,by rw [Nat.mod_eq_of_lt hnx],by rw [<- HPP.out];exact hN⟩,hpn]
        rfl
       | normal=>exact hq.elim
       | exit id=>exact hq.elim
       | goto l=>exact hq.elim
       | ret=>exact hq.elim
       | outgrown=>exact hq.elim
     ·have hN1:decide ((N:Int)<=(P:Int) - 32)=false:=decide_eq_false (by omega)
      go_wp2_with fail
      refine (must_no _).mono ?_
      rintro e w5 ⟨rfl,h2⟩
      subst h2
      go_wp2_with fail
      refine ⟨rfl,fin hR ⟨?_,M1.out.trans HMQ.out⟩⟩
      rw [HSM.out,HRD.out.1 (fun h=>hN (by rw [HPP.out];exact h.2.2.2.2))]
    ·have hn3:((N2:Int) == (NX:Int)+1)=false:=by simp;omega
     go_wp2_with fail
     with_reducible refine (E0.out _ HMQ.out).mono ?_
     rintro e w3 ⟨rfl,h2⟩
     subst h2
     go_wp2_with fail
     with_reducible refine (E8.out _ HMQ.out).mono ?_
     rintro e w3 ⟨rfl,h2⟩
     subst h2
     go_wp2_with fail
     refine (must_no _).mono ?_
     rintro e w3 ⟨rfl,h2⟩
     subst h2
     go_wp2_with fail
     refine ⟨rfl,fin hR ⟨?_,M1.out.trans HMQ.out⟩⟩
     rw [HSM.out,HRD.out.1 (fun h=>hn2 (by rw [h.2.2.2.1,Nat.mod_eq_of_lt hnx]))]
   ·have ht2:((T2:Int) == (T:Int))=false:=by simp;omega
    go_wp2_with fail
    with_reducible refine (E0.out _ HMQ.out).mono ?_
    rintro e w3 ⟨rfl,h2⟩
    subst h2
    go_wp2_with fail
    refine (must_no _).mono ?_
    rintro e w3 ⟨rfl,h2⟩
    subst h2
    go_wp2_with fail
    refine ⟨rfl,fin hR ⟨?_,M1.out.trans HMQ.out⟩⟩
    rw [HSM.out,HRD.out.1 (fun h=>ht h.2.2.1)]
  ·have hnx3:((NX:Int) == (next:Int))=false:=by simp;omega
   go_wp2_with fail
   with_reducible refine (G16.out _ HMQ.out).mono ?_
   rintro e w3 ⟨rfl,h2⟩
   subst h2
   go_wp2_with fail
   refine (must_no _).mono ?_
   rintro e w3 ⟨rfl,h2⟩
   subst h2
   go_wp2_with fail
   refine ⟨rfl,fin hR ⟨?_,M1.out.trans HMQ.out⟩⟩
   rw [HSM.out,HRD.out.1 (fun h=>hnx2 h.2.1)]
 ·have hZ2:¬ Z.toList=[72,65,86,69,82,83,65,75]:=by rw [hZL];exact hsg
  have hZ3:(Z.toList == [72,65,86,69,82,83,65,75])=false:=by simpa using hZ2
  clear hZL HZ HCV
  go_wp2_with fail
  refine (must_no _).mono ?_
  rintro e w3 ⟨rfl,h2⟩
  subst h2
  go_wp2_with fail
  refine ⟨rfl,fin hR ⟨?_,M1.out.trans HMQ.out⟩⟩
  rw [HSM.out,HRD.out.1 (fun h=>hsg h.1)]
end Go.Proofs.YtmppeipgjcjdkaaGreatDoor
