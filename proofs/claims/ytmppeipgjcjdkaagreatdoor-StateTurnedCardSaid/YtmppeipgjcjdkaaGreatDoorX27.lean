/-
  Layers 0 to 14: helps of the laws of indexes. No statement is proved here; no condition.
-/
import Derived.Test.YtmppeipgjcjdkaaGreatDoorX26
import Derived.OwnWalk
import Derived.Defers
import Derived.Recover
namespace Go.Proofs.YtmppeipgjcjdkaaGreatDoor
open _root_.Go.Proofs.Tryz
open Go.RowKit
theorem rd_cases {S:Nat->List UInt8} {h size side at_ next:Nat} (ha:at_ < h) :
  (¬ (((S (side*h+at_)).take size).take 8=sign/\getN ((((S (side*h+at_)).take size).drop 16).take 8)=next/\getN (((S (side*h+at_)).drop size).take 8)=getN ((((S (side*h+at_)).take size).drop 8).take 8) ∧
    getN (((S (side*h+at_)).drop size).drop 8)=(next+1) % 18446744073709551616/\getN ((((S (side*h+at_)).take size).drop 24).take 8)+32<=(h - at_)*size)->rd S h size side at_ next=none) ∧
  ((((S (side*h+at_)).take size).take 8=sign/\getN ((((S (side*h+at_)).take size).drop 16).take 8)=next/\getN (((S (side*h+at_)).drop size).take 8)=getN ((((S (side*h+at_)).take size).drop 8).take 8) ∧
    getN (((S (side*h+at_)).drop size).drop 8)=(next+1) % 18446744073709551616/\getN ((((S (side*h+at_)).take size).drop 24).take 8)+32<=(h - at_)*size)->rd S h size side at_ next =
   (parse (getN ((((S (side*h+at_)).take size).drop 24).take 8)) (((rdAll S (side*h+at_) size (secs size (32+getN ((((S (side*h+at_)).take size).drop 24).take 8)))).drop 32).take (getN ((((S (side*h+at_)).take size).drop 24).take 8)))).map
    fun rs=>(getN ((((S (side*h+at_)).take size).drop 8).take 8),rs,at_+secs size (32+getN ((((S (side*h+at_)).take size).drop 24).take 8)))):=by
 unfold rd
 rw [if_pos ha]
 exact ⟨fun h=>if_neg h,fun h=>if_pos h⟩
theorem rdAll_len {S:Nat->List UInt8} {base size:Nat}:∀ k,(∀ i,i < k->size<=(S (base+i)).length)->(rdAll S base size k).length=k*size
 | 0,_=>by simp [rdAll]
 | k+1,h=>by
  rw [rdAll_succ,List.length_append,rdAll_len k fun i hi=>h i (by omega),List.length_take,Nat.min_eq_left (h k (by omega)),Nat.succ_mul]
theorem wp_thenQ {P:Program} {s:Code} {R K:Act->World->Prop} {Q1 Q:Exit->Act->World->Prop} {a:Act} {w:World} (h:s.wp P (Exit.then R Q1) a w) (hR:∀ a' w',R a' w'->K a' w') (hQ:∀ e a' w',Q1 e a' w'->Q e a' w'):s.wp P (Exit.then K Q) a w:=by
 refine wp_mono h ?_
 intro e a' w' hq
 cases e with
 | normal=>exact hR _ _ hq
 | exit id=>exact hQ _ _ _ hq
 | goto l=>exact hQ _ _ _ hq
 | ret=>exact hQ _ _ _ hq
 | panic ch=>exact hQ _ _ _ hq
 | outgrown=>exact hQ _ _ _ hq
set_option maxRecDepth 100000 in
set_option maxHeartbeats 4000000 in
theorem open_ok {b sb mb p:Nat} {d:Dk} {w:World} (side at_ next:Nat) (hs:side < 2) (ha:at_ < d.n / 2) (hnx:next+1 < 18446744073709551616) (hz:128<=d.sz) (hw:Well d) (h:DkAt w No b sb mb d) (c0:w.cell? ⟨p,0,none⟩=some (.pointer (some ⟨b,0,none⟩))) :
  Calls prog 64 #[.pointer (some ⟨p,0,none⟩),.int .i64 (side:Int),.int .i64 (at_:Int),.int .u64 (next:Int)] w fun e w' =>
   (match rd d.last (d.n / 2) (d.sz - 16) side at_ next with
    | some (t,rs,beh)=>∃ v,e=.returned (.tuple #[.int .u64 (t:Int),v,.int .i64 (beh:Int)])/\OwnRecs w' w.heap.size v rs
    | none=>e=Stopped)/\Mod No w w':=by
 refine calls_hide fun R hR=>?_
 obtain ⟨m,hm⟩:∃ m,d.sz=m+16:=⟨d.sz - 16,by have:=h.s1;omega⟩
 have hm1:112<=m:=by omega
 have hm2:m<=4080:=by have:=h.s2;omega
 have hn2:d.n<=4096:=h.n2
 have hsm:d.sz - 16=m:=by omega
 have HSEC:=sector_yes (p:=p) side at_ hs ha hw h c0
 obtain ⟨x,hx⟩:∃ x,x=d.last (side*(d.n / 2)+at_):=⟨_,rfl⟩
 have hxl:x.length=m+16:=by
  rw [hx,<- hm]
  refine h.lenL ?_
  have h1:side=0\/side=1:=by omega
  rcases h1 with g | g
  ·subst g;omega
  ·subst g;omega
 rw [<- hx,hm] at HSEC
 have HSEC:=zh HSEC
 have HD:=zh h
 have HC:=zh c0
 have HWELL:=zh hw
 have HXL:=zh hxl
 have HX:=zh hx
 have HM:=zh hm
 have HSM:=zh hsm
 have hH:d.n / 2<=2048:=by omega
 have HN2:=zh hn2
 have HRD:=(rd_cases (S:=d.last) (h:=d.n / 2) (size:=d.sz - 16) (side:=side) (at_:=at_) (next:=next) ha)
 rw [hsm,<- hx] at HRD
 have HRD:=zh HRD
 have h3:∀ k,Own3 b sb mb k->k < w.heap.size:=fun k e=>h.lt e
 have hpw:p < w.heap.size:=lt_of_cell c0
 have H3:=zh (And.intro h3 hpw)
 have hlen:∀ i,i < d.n / 2->(d.last (side*(d.n / 2)+i)).length=m+16:=fun i hi=>by
  rw [<- hm]
  refine h.lenL ?_
  have h1:side=0\/side=1:=by omega
  rcases h1 with g | g
  ·subst g;omega
  ·subst g;omega
 have HLEN:=zh hlen
 clear h c0 hw hx hm hsm hn2 hxl h3 hpw hlen
 go_enter func64,ntmps64
 go_wp2_with fail
 refine HSEC.out.mono ?_
 clear HSEC
 rintro e w1 ⟨v,rfl,hm1',ho1⟩
 obtain ⟨g,cap,rfl,hgb⟩:=own_shape ho1 (by omega)
 have hsl:=Sl.of_own (X:=fun k=>k < w.heap.size) ho1 (fun _ h1 h2=>by omega)
 obtain ⟨_,_,_,hsh,hcap1,hcap2,_⟩:=hsl.shape (by omega)
 cases hsh
 have hB:=hsl.takeN (m:=m) (by rw [bv_length,HXL.out]) (by omega)
 rw [<- bv_take] at hB
 have hE:=hsl.part (by rw [bv_length,HXL.out]) m 16 (cap - m) (by omega) (by omega) (by omega)
 rw [<- bv_drop,<- bv_take,List.take_of_length_le (by rw [List.length_drop,HXL.out];omega),Nat.zero_add] at hE
 have hbl:(x.take m).length=m:=by rw [List.length_take,HXL.out];omega
 have hel:(x.drop m).length=16:=by rw [List.length_drop,HXL.out];omega
 have M1:=zh hm1'
 have HSL:=zh hsl
 have HB:=zh hB
 have field:∀ o,o+8<=32->∀ wq,Mod No w1 wq->Calls prog 126 #[.slice (some ⟨g,o,none⟩) 8 (cap - o)] wq fun e w'=>e=.returned (.int .u64 ((getN (((x.take m).drop o).take 8):Nat):Int))/\w'=wq:=fun o ho wq hq=>by
  have h1:=hB.part (by rw [bv_length,hbl]) o 8 (cap - o) (by omega) (by omega) (by omega)
  rw [<- bv_drop,<- bv_take,Nat.zero_add] at h1
  have h2:(((x.take m).drop o).take 8).length=8:=by rw [List.length_take,List.length_drop,hbl];omega
  exact get_any (X:=fun k=>k < w.heap.size) 5 _ _ _ (by rw [h2];exact h1.kn hq) (by omega)
 have tailf:∀ o,o+8<=16->∀ wq,Mod No w1 wq->Calls prog 126 #[.slice (some ⟨g,m+o,none⟩) 8 (cap - m - o)] wq fun e w'=>e=.returned (.int .u64 ((getN (((x.drop m).drop o).take 8):Nat):Int))/\w'=wq:=fun o ho wq hq=>by
  have h1:=hE.part (by rw [bv_length,hel]) o 8 (cap - m - o) (by omega) (by omega) (by omega)
  rw [<- bv_drop,<- bv_take] at h1
  have h2:(((x.drop m).drop o).take 8).length=8:=by rw [List.length_take,List.length_drop,hel];omega
  exact get_any (X:=fun k=>k < w.heap.size) 5 _ _ _ (by rw [h2];exact h1.kn hq) (by omega)
 have G8:=zh (field 8 (by omega))
 have G16:=zh (field 16 (by omega))
 have G24:=zh (field 24 (by omega))
 have E0:=tailf 0 (by omega)
 simp only [Nat.add_zero,Nat.sub_zero,List.drop_zero] at E0
 have E0:=zh E0
 have E8:=zh (tailf 8 (by omega))
 have e16:((x.drop m).drop 8).take 8=(x.drop m).drop 8:=List.take_of_length_le (by rw [List.length_drop,hel];omega)
 rw [e16] at E8
 have HSZ:=zh (show ∀ wq,Mod No w1 wq->Calls prog 125 #[.pointer (some ⟨p,0,none⟩)] wq fun e w'=>e=.returned (.int .i64 (m:Int))/\w'=wq from fun wq hq=>by
  have:=lsize_any (p:=p) (HD.out.stay (hm1'.trans hq)) ((hm1'.trans hq).cell HC.out (fun f=>f))
  rw [HSM.out] at this
  exact this)
 obtain ⟨Z,hZ⟩:∃ Z:ByteArray,Z=⟨((x.take m).take 8).toArray⟩:=⟨_,rfl⟩
 have hcv:∀ wq,Mod No w1 wq->(convert 41 9 (.slice (some ⟨g,0,none⟩) 8 cap)).run prog wq=.ok (.string Z) wq:=fun wq hq=>by
  rw [hZ]
  have h1:=hB.takeN (m:=8) (by rw [bv_length,hbl]) (by omega)
  rw [<- bv_take] at h1
  have h2:((x.take m).take 8).length=8:=by rw [List.length_take,hbl];omega
  have h3:=string_of (P:=prog) (src:=41) (dst:=9) (e:=5) (l:=(x.take m).take 8) (v:=.slice (some ⟨g,0,none⟩) 8 cap) (w:=wq) (X:=fun k=>k < w.heap.size) (e':=5) (by rw [h2];exact h1.kn hq) underlying41 underlying5 underlying9
  exact h3
 have HZ:=zh hZ
 have HCV:=zh hcv
 have hc16:((m:Int)+16)<=(cap:Int):=by omega
 have hm0:(112:Int)<=(m:Int):=by omega
 have k8:(8:Int)<=(cap:Int):=by omega
 have k16:(16:Int)<=(cap:Int):=by omega
 have k24:(24:Int)<=(cap:Int):=by omega
 have k32:(32:Int)<=(cap:Int):=by omega
 have n8:¬ cap=8:=by omega
 have n16:¬ cap=16:=by omega
 have n24:¬ cap=24:=by omega
 clear hcv hm1' ho1 hsl hB hE field tailf hZ e16 hbl hel
 generalize getN (((x.take m).drop 8).take 8)=T at *
 generalize getN (((x.take m).drop 16).take 8)=NX at *
 generalize getN (((x.take m).drop 24).take 8)=N at *
 generalize getN ((x.drop m).take 8)=T2 at *
 generalize getN ((x.drop m).drop 8)=N2 at *
 go_upto_region 2 with fail
 go_quiet (first | (go_at_call 125;refine Calls.quiet_of_same (HSZ.out _ ((Mod.refl No w1).drewN _))))
 generalize hw2:World.drewN w1 _=w2
 have HM2:=zh (show Mod No w1 w2 by rw [<- hw2];exact (Mod.refl No w1).drewN _)
 clear hw2
 go_upto_region 3 with fail
 go_quiet (first | (go_at_call 126;with_reducible refine Calls.quiet_of_same (G8.out _ (HM2.out.drewN _))) | (go_at_call 126;with_reducible refine Calls.quiet_of_same (G24.out _ (HM2.out.drewN _))))
 generalize hwq:World.drewN w2 _=wq
 have hMq:Mod No w1 wq:=by rw [<- hwq];exact HM2.out.drewN _
 have HMQ:=zh hMq
 have hcv:=HCV.out wq hMq
 clear hwq hMq
 go_upto_region 4 with fail
 have hZL:Z.toList=(x.take m).take 8:=by rw [HZ.out,ByteArray.toList_eq]
 by_cases hsg:(x.take m).take 8=sign
 ·have hZ2:Z.toList=[72,65,86,69,82,83,65,75]:=by rw [hZL,hsg];rfl
  clear hZL HZ HCV
  by_cases hnx2:NX=next
  ·have HSG:=zh hsg
   subst hnx2
   go_wp2_with fail
   with_reducible refine (G16.out _ HMQ.out).mono ?_
   rintro e w3 ⟨rfl,h2⟩
   subst h2
   go_wp2_with fail
   refine (must_yes 0 _).mono ?_
   rintro e w3 ⟨rfl,h2⟩
   subst h2
   by_cases ht:T2=T
   ·subst ht
    have hnx':(NX:Int)+1<=18446744073709551615:=by omega
    by_cases hn2:N2=NX+1
    ·subst hn2
     go_wp2_with fail
     with_reducible refine (E0.out _ HMQ.out).mono ?_
     rintro e w3 ⟨rfl,h2⟩
     subst h2
     go_wp2_with fail
     with_reducible refine (E8.out _ HMQ.out).mono ?_
     rintro e w3 ⟨rfl,h2⟩
     subst h2
     go_wp2_with fail
     refine (must_yes 0 _).mono ?_
     rintro e w3 ⟨rfl,h2⟩
     subst h2
     obtain ⟨P,hP⟩:∃ P,P=(d.n / 2 - at_)*m:=⟨_,rfl⟩
     have hP1:m<=P:=by rw [hP];exact Nat.le_mul_of_pos_left m (by omega)
     have hP2:P<=2048*4080:=by rw [hP];exact Nat.mul_le_mul (by omega) hm2
     have HMO:=most_any (p:=p) (w:=w3) at_ (by omega) (HD.out.stay (M1.out.trans HMQ.out)) ((M1.out.trans HMQ.out).cell HC.out (fun f=>f))
     rw [HSM.out,<- hP] at HMO
     have HMO:=zh HMO
     have HPP:=zh hP
     clear hP
     go_wp2_with fail
     refine HMO.out.mono ?_
     clear HMO
     rintro e w4 ⟨rfl,h2⟩
     subst h2
     by_cases hN:N+32<=P
     ·have hN1:decide ((N:Int)<=(P:Int) - 32)=true:=decide_eq_true (by omega)
      go_wp2_with fail
      refine (must_yes 0 _).mono ?_
      rintro e w5 ⟨rfl,h2⟩
      subst h2
      obtain ⟨K,hK⟩:∃ K,K=secs m (32+N):=⟨_,rfl⟩
      have hK1:1<=K:=by rw [hK];exact secs_pos (by omega)
      have hK2:at_+K<=d.n / 2:=by
       have:K<=d.n / 2 - at_:=by rw [hK];exact secs_le (by omega) (by rw [<- HPP.out];omega)
       omega
      have hK3:32+N<=K*m:=by rw [hK];exact secs_up (by omega)
      have hK4:K*m<=2048*4080:=Nat.mul_le_mul (by omega) hm2
      have MQ:=zh (M1.out.trans HMQ.out)
      have HLS:=lsecs_any (p:=p) (w:=w5) (32+N) (by omega) (HD.out.stay MQ.out) (MQ.out.cell HC.out (fun f=>f))
      rw [HSM.out,<- hK,show (((32+N:Nat)):Int)=32+(N:Int) by omega] at HLS
      have HLS:=zh HLS
      have HKK:=zh hK
      have HBQ:=zh (HB.out.kn HMQ.out)
      clear hK
      have hN0:(N:Int)<=8355840:=by omega
      go_wp2_with fail
      refine HLS.out.mono ?_
      clear HLS
      rintro e w6 ⟨rfl,hm6⟩
      have M6:=zh (MQ.out.trans hm6)
      have hbl:(x.take m).length=m:=by rw [List.length_take,HXL.out];omega
      have HCL:=clone_bytes (fun k=>k < w.heap.size) (.slice (some ⟨g,0,none⟩) m cap) (bv (x.take m)) w6 (by rw [bv_length,hbl];exact HBQ.out.kn hm6) (bv_one _) (by rw [bv_length,hbl];omega)
      have HCL:=zh HCL
      clear hm6 hbl HBQ HB HSL HSZ E0 E8 G16 G8 G24 hcv
      go_wp2_with fail
      refine HCL.out.mono ?_
      clear HCL
      rintro e w7 ⟨v8,rfl,hown8,_,hm7⟩
      have hx1:rdAll d.last (side*(d.n / 2)+at_) m 1=x.take m:=by rw [rdAll_succ,HX.out];simp [rdAll]
      have HO8:=zh (show w7.ownsRow w6.heap.size 5 1 v8 (rdAll d.last (side*(d.n / 2)+at_) (d.sz - 16) 1).length (bv (rdAll d.last (side*(d.n / 2)+at_) (d.sz - 16) 1)) by
       rw [HSM.out,hx1];rw [bv_length] at hown8;exact hown8)
      have HD7:=zh (((HD.out.stay M6.out).avoid.stay hm7).shrink (Y:=fun k=>w6.heap.size<=k) fun q _ e=>.inr e)
      have HC7:=zh ((M6.out.trans hm7).cell HC.out (fun f=>f))
      have HS7:=zh hm7.size
      have M7:=zh (M6.out.trans hm7)
      have hws:=M6.out.size
      clear hown8 hm7 hx1 HC HD
      go_upto_block 0 with fail
      refine wp_only (secs_any (p:=p) side at_ (at_+K) v8 _ _ _ _ _ w6.heap.size hs (by omega) hK2 HWELL.out HD7.out (fun k e=>by have:=H3.out.1 k e;omega) (by have:=H3.out.2;omega) HC7.out HS7.out HO8.out ⟨rfl,rfl,rfl,rfl,rfl,rfl,rfl,rfl,rfl,by go_num,rfl,trivial⟩) ?_
      clear HO8 HD7 HC7
      rintro a' w8 ⟨⟨v9,hown9,hF9⟩,hm8⟩
      rw [HSM.out,show at_+K - at_=K by omega] at hown9
      have hal:(rdAll d.last (side*(d.n / 2)+at_) m K).length=K*m:=rdAll_len K fun i hi=>by
       rw [Nat.add_assoc,HLEN.out _ (by omega)];omega
      obtain ⟨A,hA⟩:∃ A,A=rdAll d.last (side*(d.n / 2)+at_) m K:=⟨_,rfl⟩
      rw [<- hA] at hown9 hal
      have HA:=zh hA
      have M8:=zh (M7.out.then hm8 fun i hi e=>by omega)
      rw [hal] at hown9
      have hKm:112<=K*m:=Nat.le_trans hm1 (Nat.le_mul_of_pos_left m hK1)
      obtain ⟨g9,cap9,rfl,_⟩:=own_shape hown9 (by omega)
      have hsl9:=Sl.of_own (X:=No) hown9 (fun _ _ f=>f)
      obtain ⟨_,_,_,hsh9,hcap91,hcap92,_⟩:=hsl9.shape (by omega)
      cases hsh9
      have hLl:((A.drop 32).take N).length=N:=by rw [List.length_take,List.length_drop,hal];omega
      have hrest:=hsl9.part (by rw [bv_length,hal]) 32 N (cap9 - 32) (by omega) (by omega) (by omega)
      rw [<- bv_drop,<- bv_take,Nat.zero_add] at hrest
      have HRE:=zh (show Sl w8 No 5 (.slice (some ⟨g9,32,none⟩) N (cap9 - 32)) ((A.drop 32).take N).length (bv ((A.drop 32).take N)) by rw [hLl];exact hrest)
      have HLL:=zh hLl
      have HAL:=zh hal
      have hw8:=M8.out.size
      have c32:(32:Int)<=(cap9:Int):=by omega
      have c33:(32:Int)+(N:Int)<=(cap9:Int):=by omega
      have c34:¬ cap9=32:=by omega
      clear hown9 hsl9 hrest hA hal hLl hm8
      generalize K*m=KM at *
      obtain ⟨ts,ds⟩:=a'
      obtain ⟨hsz,hds,hs0,hs1,hs2,hs3,hs12,hs14,hs15,hs16,-⟩:=hF9
      dsimp only at hsz hds hs0 hs1 hs2 hs3 hs12 hs14 hs15 hs16
      subst hds
      obtain ⟨c,rfl,hc⟩:=lit135 ts hsz
      rw [hc] at hs0
      rw [hc] at hs1
      rw [hc] at hs2
      rw [hc] at hs3
      rw [hc] at hs12
      rw [hc] at hs14
      rw [hc] at hs15
      rw [hc] at hs16
      simp only [hs0,hs1,hs2,hs3,hs12,hs14,hs15,hs16]
      clear hc hsz hs0 hs1 hs2 hs3 hs12 hs14 hs15 hs16
      go_upto_block 2 with fail
      refine wp_thenQ (recs_any w8 w.heap.size _ _ _ ((A.drop 32).take N) _ hw8 (by rw [HLL.out];omega) HRE.out ⟨rfl,rfl,rfl,rfl,rfl,by rw [show 32+N - 32=N by omega];rfl,trivial⟩) ?_ ?_
      ·rintro a2 w9 ⟨⟨rs,v10,hpar,hrecs,hF10⟩,hm9⟩
       obtain ⟨ts,ds⟩:=a2
       obtain ⟨hsz,hds,hs14,hs16,hs18,-⟩:=hF10
       dsimp only at hsz hds hs14 hs16 hs18
       subst hds
       obtain ⟨c,rfl,hc⟩:=lit135 ts hsz
       rw [hc] at hs14
       rw [hc] at hs16
       rw [hc] at hs18
       simp only [hs14,hs16,hs18]
       clear hc hsz hs14 hs16 hs18
       have HR9:=zh hrecs
       have HPA:=zh hpar
       have M9:=zh (M8.out.then hm9 fun i hi e=>by omega)
       clear hrecs hpar hm9
       go_wp2_with fail
       go_ret3
       refine fin hR ⟨?_,M9.out⟩
       have hp:=HPA.out
       rw [HLL.out,HA.out,HKK.out] at hp
       rw [HSM.out,HRD.out.2 ⟨HSG.out,by trivial,by trivial,by rw [Nat.mod_eq_of_lt hnx],by rw [<- HPP.out];exact hN⟩,hp,<- HKK.out]
       exact ⟨v10,rfl,HR9.out⟩
      ·rintro e a2 w9 hq
       cases e with
       | panic ch =>
        obtain ⟨rfl,hd,hpn,hm9⟩:=hq
        refine ⟨hd,fin hR ⟨?_,M8.out.then hm9 fun i hi e=>by omega⟩⟩
        rw [HLL.out,HA.out,HKK.out] at hpn
        rw [HSM.out,HRD.out.2 ⟨HSG.out,by trivial,by trivial,by rw [Nat.mod_eq_of_lt hnx],by rw [<- HPP.out];exact hN⟩,hpn]
        rfl
       | normal=>exact hq.elim
       | exit id=>exact hq.elim
       | goto l=>exact hq.elim
       | ret=>exact hq.elim
       | outgrown=>exact hq.elim
     ·have hN1:decide ((N:Int)<=(P:Int) - 32)=false:=decide_eq_false (by omega)
      go_wp2_with fail
      refine (must_no _).mono ?_
      rintro e w5 ⟨rfl,h2⟩
      subst h2
      go_wp2_with fail
      refine ⟨rfl,fin hR ⟨?_,M1.out.trans HMQ.out⟩⟩
      rw [HSM.out,HRD.out.1 (fun h=>hN (by rw [HPP.out];exact h.2.2.2.2))]
    ·have hn3:((N2:Int) == (NX:Int)+1)=false:=by simp;omega
     go_wp2_with fail
     with_reducible refine (E0.out _ HMQ.out).mono ?_
     rintro e w3 ⟨rfl,h2⟩
     subst h2
     go_wp2_with fail
     with_reducible refine (E8.out _ HMQ.out).mono ?_
     rintro e w3 ⟨rfl,h2⟩
     subst h2
     go_wp2_with fail
     refine (must_no _).mono ?_
     rintro e w3 ⟨rfl,h2⟩
     subst h2
     go_wp2_with fail
     refine ⟨rfl,fin hR ⟨?_,M1.out.trans HMQ.out⟩⟩
     rw [HSM.out,HRD.out.1 (fun h=>hn2 (by rw [h.2.2.2.1,Nat.mod_eq_of_lt hnx]))]
   ·have ht2:((T2:Int) == (T:Int))=false:=by simp;omega
    go_wp2_with fail
    with_reducible refine (E0.out _ HMQ.out).mono ?_
    rintro e w3 ⟨rfl,h2⟩
    subst h2
    go_wp2_with fail
    refine (must_no _).mono ?_
    rintro e w3 ⟨rfl,h2⟩
    subst h2
    go_wp2_with fail
    refine ⟨rfl,fin hR ⟨?_,M1.out.trans HMQ.out⟩⟩
    rw [HSM.out,HRD.out.1 (fun h=>ht h.2.2.1)]
  ·have hnx3:((NX:Int) == (next:Int))=false:=by simp;omega
   go_wp2_with fail
   with_reducible refine (G16.out _ HMQ.out).mono ?_
   rintro e w3 ⟨rfl,h2⟩
   subst h2
   go_wp2_with fail
   refine (must_no _).mono ?_
   rintro e w3 ⟨rfl,h2⟩
   subst h2
   go_wp2_with fail
   refine ⟨rfl,fin hR ⟨?_,M1.out.trans HMQ.out⟩⟩
   rw [HSM.out,HRD.out.1 (fun h=>hnx2 h.2.1)]
 ·have hZ2:¬ Z.toList=[72,65,86,69,82,83,65,75]:=by rw [hZL];exact hsg
  have hZ3:(Z.toList == [72,65,86,69,82,83,65,75])=false:=by simpa using hZ2
  clear hZL HZ HCV
  go_wp2_with fail
  refine (must_no _).mono ?_
  rintro e w3 ⟨rfl,h2⟩
  subst h2
  go_wp2_with fail
  refine ⟨rfl,fin hR ⟨?_,M1.out.trans HMQ.out⟩⟩
  rw [HSM.out,HRD.out.1 (fun h=>hsg h.1)]
set_option maxRecDepth 100000 in
theorem open_no {b sb mb p:Nat} {d:Dk} {w:World} (side at_ next:Nat) (ha:d.n / 2<=at_) (h:DkAt w No b sb mb d) (c0:w.cell? ⟨p,0,none⟩=some (.pointer (some ⟨b,0,none⟩))) :
  Calls prog 64 #[.pointer (some ⟨p,0,none⟩),.int .i64 (side:Int),.int .i64 (at_:Int),.int .u64 (next:Int)] w fun e w'=>e=Stopped/\w'=w:=by
 refine calls_hide fun R hR=>?_
 have HS:=zh (sector_no (p:=p) side at_ ha h c0)
 clear h c0
 go_enter func64,ntmps64
 go_wp2_with fail
 refine HS.out.mono ?_
 rintro e w1 ⟨rfl,h2⟩
 subst h2
 go_wp2_with fail
 exact ⟨rfl,fin hR ⟨rfl,rfl⟩⟩
theorem rd_no {S:Nat->List UInt8} {h size side at_ next:Nat} (ha:h<=at_):rd S h size side at_ next=none:=by
 unfold rd;rw [if_neg (by omega)]
theorem open_any {b sb mb p:Nat} {d:Dk} {w:World} (side at_ next:Nat) (hs:side < 2) (hnx:next+1 < 18446744073709551616) (hz:128<=d.sz) (hw:Well d) (h:DkAt w No b sb mb d) (c0:w.cell? ⟨p,0,none⟩=some (.pointer (some ⟨b,0,none⟩))) :
  Calls prog 64 #[.pointer (some ⟨p,0,none⟩),.int .i64 (side:Int),.int .i64 (at_:Int),.int .u64 (next:Int)] w fun e w' =>
   (match rd d.last (d.n / 2) (d.sz - 16) side at_ next with
    | some (t,rs,beh)=>∃ v,e=.returned (.tuple #[.int .u64 (t:Int),v,.int .i64 (beh:Int)])/\OwnRecs w' w.heap.size v rs
    | none=>e=Stopped)/\Mod No w w':=by
 rcases Nat.lt_or_ge at_ (d.n / 2) with ha | ha
 ·exact open_ok side at_ next hs ha hnx hz hw h c0
 ·refine (open_no side at_ next ha h c0).mono ?_
  rintro e w' ⟨rfl,rfl⟩
  rw [rd_no ha]
  exact ⟨rfl,Mod.refl _ _⟩
set_option maxRecDepth 100000 in
set_option maxHeartbeats 1000000 in
theorem stop_idle (p q:Nat) (w:World) :
  CallsD prog 123 #[.pointer (some ⟨p,0,none⟩),.pointer (some ⟨q,0,none⟩)] .returning w fun e u' w'=>e=.returned (.tuple #[])/\u'=.returning/\w'=w:=by
 refine callsD_of_wpS func123 rfl fun c₀ cs hu=>?_
 apply wpS_seq
 apply wpS_region
 simp [wpOpsS,go_sem,recoverD,hu,ntmps123,Exit.thenS]
 refine wpS_of_wp ?_
 refine wp_mono (Q:=Exit.then (fun a' w'=>a'.defers=[]/\w'=w) Nope) ?_ ?_
 ·refine wp_part fun J K' hJ hK=>?_
  go_wp2_with fail
  exact Met.intro (hJ _ _ ⟨rfl,rfl⟩)
 ·rintro e a' w' hq
  cases e with
  | normal =>
   obtain ⟨hd,rfl⟩:=hq
   cases c₀
   simp_all [bodyPostS,results,results123]
  | exit id=>exact hq.elim
  | goto l=>exact hq.elim
  | ret=>exact hq.elim
  | panic ch=>exact hq.elim
  | outgrown=>exact hq.elim
theorem assert_stop (w:World) (v:Value):(Instr.typeAssert (.iface 215 v) 20 215 true).run prog w=.ok (.tuple #[v,.bool true]) w:=by kernel_rfl
set_option maxRecDepth 100000 in
set_option maxHeartbeats 1000000 in
theorem stop_caught (p q:Nat) (x:Bool) (y:Int) (w:World) (hp:w.heap[p]? = some (.cells #[.bool x] 4 (0,0))) (hq:w.heap[q]? = some (.cells #[.int .i64 y] 26 (0,0))) :
  CallsD prog 123 #[.pointer (some ⟨p,0,none⟩),.pointer (some ⟨q,0,none⟩)] (.panicking [{ v:=stopV,recovered:=false }]) w fun e u' w' =>
   e=.returned (.tuple #[])/\u'=.panicking [{ v:=stopV,recovered:=true }]/\w'.heap[p]? = some (.cells #[.bool false] 4 (0,0))/\w'.heap[q]? = some (.cells #[.int .i64 0] 26 (0,0))/\Mod (fun k=>k=p\/k=q) w w':=by
 refine callsD_of_wpS func123 rfl fun c₀ cs hu=>?_
 apply wpS_seq
 apply wpS_region
 simp [wpOpsS,go_sem,recoverD,hu,ntmps123,Exit.thenS]
 refine wpS_of_wp ?_
 have p0:=cell_of (i:=0) hp rfl
 have q0:=cell_of (i:=0) hq rfl
 refine wp_mono (Q:=Exit.then (fun a' w'=>a'.defers=[]/\w'.heap[p]? = some (.cells #[.bool false] 4 (0,0))/\w'.heap[q]? = some (.cells #[.int .i64 0] 26 (0,0))/\Mod (fun k=>k=p\/k=q) w w') Nope) ?_ ?_
 ·refine wp_part fun J K' hJ hK=>?_
  have hta:=assert_stop
  simp only [Array.replicate_succ,Array.replicate_zero]
  go_upto_region 5 with fail
  have hpl:=lt_of_heap hp
  have hql:=lt_of_heap hq
  have hpq:p ≠ q:=fun e=>by subst e;rw [hp] at hq;cases hq
  obtain ⟨wd,hwd⟩:∃ wd,wd=(w.alloc (.cells #[.int .i64 0] 215)).drew:=⟨_,rfl⟩
  have hmd:Mod No w wd:=by rw [hwd];exact ((Mod.refl No w).alloc _).drew
  have hs0:wd.heap[w.heap.size]? = some (.cells #[.int .i64 0] 215 (0,0)):=by rw [hwd];exact heap_alloc_new w _
  have hp1:=hmd.keep hp (fun f=>f)
  have hq1:=hmd.keep hq (fun f=>f)
  have hS0:=cell_of (i:=0) hs0 rfl
  have pc:=cell_of (i:=0) hp1 rfl
  have pf:=frozen_of 0 hp1
  have m2:Mod (fun k=>k=p) wd (wd.setCell ⟨p,0,none⟩ (.bool false)):=(Mod.refl (fun k=>k=p) wd).setCell (fun _=>rfl) _
  have hS2:=cell_of (i:=0) (m2.keep hs0 (by omega)) rfl
  have hq2:=m2.keep hq1 (Ne.symm hpq)
  have qc:=cell_of (i:=0) hq2 rfl
  have qf:=frozen_of 0 hq2
  have hp2:=heap_setCell hp1 (i:=0) (.bool false)
  have m3:Mod (fun k=>k=q) (wd.setCell ⟨p,0,none⟩ (.bool false)) ((wd.setCell ⟨p,0,none⟩ (.bool false)).setCell ⟨q,0,none⟩ (.int .i64 0)):=(Mod.refl (fun k=>k=q) _).setCell (fun _=>rfl) _
  have R1:=zh (m3.keep hp2 hpq)
  have R2:=zh (heap_setCell hq2 (i:=0) (.int .i64 0))
  have R3:=zh (show Mod (fun k=>k=p\/k=q) w ((wd.setCell ⟨p,0,none⟩ (.bool false)).setCell ⟨q,0,none⟩ (.int .i64 0)) from
   ((hmd.weaken fun _ _ f=>f.elim).setCell (fun _=>.inl rfl) _).setCell (fun _=>.inr rfl) _)
  have HS2:=zh hS2
  have HWD:=zh hwd
  clear hwd hp hq hs0 hmd hp1 hq1 m2 hS2 hq2 hp2 m3 hpq hpl hql p0 q0
  refine wp_region_T (fun w'=>w'.cell? ⟨w.heap.size,0,none⟩=some (.int .i64 0)) 3 (by kernel_rfl) ?_
  rw [<- HWD.out]
  refine yR 0 16 hS0 ?_
  refine yR 1 17 hS0 ?_
  refine wpAnyT_one 2 rfl (by kernel_rfl) rfl ?_
  intro K hK
  go_simp
  show K _ _
  refine hK.out _ _ (fun _=>HS2.out) ?_
  clear hK K
  refine wpAnyT_one 3 rfl (by kernel_rfl) rfl ?_
  intro K hK
  go_simp
  show K _ _
  refine hK.out _ _ (fun h=>absurd rfl h) ?_
  clear hK K
  refine wpAnyT_done (by kernel_rfl) ?_ _
  go_wp2_with fail
  exact Met.intro (hJ _ _ ⟨rfl,R1.out,R2.out,R3.out⟩)
 ·rintro e a' w' hq
  cases e with
  | normal =>
   obtain ⟨hd,h1,h2,h3⟩:=hq
   cases c₀
   simp_all [bodyPostS,results,results123]
  | exit id=>exact hq.elim
  | goto l=>exact hq.elim
  | ret=>exact hq.elim
  | panic ch=>exact hq.elim
  | outgrown=>exact hq.elim
set_option maxRecDepth 100000 in
set_option maxHeartbeats 1000000 in
theorem try_begin (c1 c2 c3:Value) (w:World) (S:Nat->Prop) (Yes Nay:World->Prop) (hS:∀ q,S q->q < w.heap.size)
  (hf:∀ w1,Mod No w w1->Calls prog 122 #[c1,c2,c3] w1 fun e w'=>Mod S w1 w'/\((e=.returned (.tuple #[])/\Yes w')\/(e=Stopped/\Nay w'))) :
  Calls prog 62 #[.func (.func 122) #[] #[c1,c2,c3]] w fun e w'=>∃ wy,Mod S w wy/\(wy.heap[w.heap.size]? = some (.cells #[.bool false] 4 (0,0))/\wy.heap[w.heap.size+1]? = some (.cells #[.int .i64 0] 26 (0,0)))/\Mod (fun q=>q=w.heap.size\/q=w.heap.size+1) wy w' ∧
   ((e=.returned (.tuple #[.bool true,.int .i64 0])/\Yes wy)\/(e=.returned (.tuple #[.bool false,.int .i64 0])/\Nay wy)):=by
 refine calls_hide fun R hR=>?_
 have hmf:∀ (fn:Fn) (first cap:Array Value) (w:World),(Instr.makeFunc fn first cap).run prog w=.ok (.func fn first cap) w:=fun _ _ _ _=>rfl
 obtain ⟨w1,hw1⟩:∃ w1,w1=(w.alloc (.cells #[.bool false] 4)).alloc (.cells #[.int .i64 0] 26):=⟨_,rfl⟩
 have m1:Mod No w w1:=by rw [hw1];exact ((Mod.refl No w).alloc _).alloc _
 have hp:w1.heap[w.heap.size]? = some (.cells #[.bool false] 4 (0,0)):=by
  rw [hw1];exact heap_alloc_old _ (heap_alloc_new w _)
 have hq:w1.heap[w.heap.size+1]? = some (.cells #[.int .i64 0] 26 (0,0)):=by
  rw [hw1];exact heap_at_new _ _ (by simp)
 have HF:=zh (hf w1 m1)
 have HW1:=zh hw1
 have M1:=zh m1
 have HP:=zh hp
 have HQ:=zh hq
 have HS:=zh hS
 clear hf hw1 m1 hp hq hS
 go_enter_defers func62,ntmps62
 go_wp2_with fail
 rw [<- HW1.out]
 refine HF.out.mono ?_
 clear HF
 rintro e wy ⟨hmy,hcase⟩
 have hpy:=hmy.keep HP.out (fun e=>by have:=HS.out _ e;omega)
 have hqy:=hmy.keep HQ.out (fun e=>by have:=HS.out _ e;omega)
 have HPQ:=zh (And.intro hpy hqy)
 have MY:=zh (show Mod S w wy from (M1.out.weaken fun _ _ f=>f.elim).trans hmy)
 clear HW1
 rcases hcase with ⟨rfl,hy⟩ | ⟨rfl,hn⟩
 ·have HY:=zh hy
  have p0:=cell_of (i:=0) hpy rfl
  have pf:=frozen_of 0 hpy
  have m2:Mod (fun q=>q=w.heap.size) wy (wy.setCell ⟨w.heap.size,0,none⟩ (.bool true)):=(Mod.refl (fun q=>q=w.heap.size) wy).setCell (fun _=>rfl) _
  have hq2:=m2.keep hqy (by omega)
  have q0:=cell_of (i:=0) hq2 rfl
  have qf:=frozen_of 0 hq2
  have hp2:=heap_setCell hpy (i:=0) (.bool true)
  have m3:Mod (fun q=>q=w.heap.size+1) (wy.setCell ⟨w.heap.size,0,none⟩ (.bool true)) ((wy.setCell ⟨w.heap.size,0,none⟩ (.bool true)).setCell ⟨w.heap.size+1,0,none⟩ (.int .i64 0)):=(Mod.refl (fun q=>q=w.heap.size+1) _).setCell (fun _=>rfl) _
  have R1:=zh (cell_of (i:=0) (m3.keep hp2 (by omega)) rfl)
  have R2:=zh (cell_of (i:=0) (heap_setCell hq2 (i:=0) (.int .i64 0)) rfl)
  have R3:=zh (show Mod (fun q=>q=w.heap.size\/q=w.heap.size+1) wy ((wy.setCell ⟨w.heap.size,0,none⟩ (.bool true)).setCell ⟨w.heap.size+1,0,none⟩ (.int .i64 0)) from
   ((Mod.refl (fun q=>q=w.heap.size\/q=w.heap.size+1) wy).setCell (fun _=>.inl rfl) _).setCell (fun _=>.inr rfl) _)
  clear hy hpy hqy m2 hq2 hp2 m3
  go_wp2_with fail
  refine leaves_cons (f:=123) (args:=#[.pointer (some ⟨w.heap.size,0,none⟩),.pointer (some ⟨w.heap.size+1,0,none⟩)]) (by simp) (by simp [go_sem]) ?_
  refine (stop_idle _ _ _).mono ?_
  rintro e u' w'' ⟨rfl,rfl,rfl⟩
  have r1:=R1.out
  have r2:=R2.out
  refine ⟨.tuple #[.bool true,.int .i64 0],?_,?_⟩
  ·simp [results,results62,go_sem,r1,r2]
  ·exact fin hR ⟨wy,MY.out,HPQ.out,R3.out,.inl ⟨rfl,HY.out⟩⟩
 ·have HNO:=zh hn
  clear hn
  go_wp2_with fail
  refine leaves_cons (f:=123) (args:=#[.pointer (some ⟨w.heap.size,0,none⟩),.pointer (some ⟨w.heap.size+1,0,none⟩)]) (by simp) (by simp [go_sem]) ?_
  refine (stop_caught _ _ _ _ _ hpy hqy).mono ?_
  rintro e u' w'' ⟨rfl,rfl,r1,r2,hm⟩
  have r1:=cell_of (i:=0) r1 rfl
  have r2:=cell_of (i:=0) r2 rfl
  refine ⟨.tuple #[.bool false,.int .i64 0],?_,?_⟩
  ·simp [results,results62,go_sem,r1,r2]
  ·exact fin hR ⟨wy,MY.out,HPQ.out,hm,.inr ⟨rfl,HNO.out⟩⟩
set_option maxRecDepth 100000 in
set_option maxHeartbeats 1000000 in
theorem try_open (c1 c2 c3:Value) (w:World) (S:Nat->Prop) (Yes Nay:World->Prop) (hS:∀ q,S q->q < w.heap.size)
  (hf:∀ w1,Mod No w w1->Calls prog 63 #[c1,c2,c3] w1 fun e w'=>Mod S w1 w'/\((e=.returned (.tuple #[])/\Yes w')\/(e=Stopped/\Nay w'))) :
  Calls prog 62 #[.func (.func 63) #[] #[c1,c2,c3]] w fun e w'=>∃ wy,Mod S w wy/\(wy.heap[w.heap.size]? = some (.cells #[.bool false] 4 (0,0))/\wy.heap[w.heap.size+1]? = some (.cells #[.int .i64 0] 26 (0,0)))/\Mod (fun q=>q=w.heap.size\/q=w.heap.size+1) wy w' ∧
   ((e=.returned (.tuple #[.bool true,.int .i64 0])/\Yes wy)\/(e=.returned (.tuple #[.bool false,.int .i64 0])/\Nay wy)):=by
 refine calls_hide fun R hR=>?_
 have hmf:∀ (fn:Fn) (first cap:Array Value) (w:World),(Instr.makeFunc fn first cap).run prog w=.ok (.func fn first cap) w:=fun _ _ _ _=>rfl
 obtain ⟨w1,hw1⟩:∃ w1,w1=(w.alloc (.cells #[.bool false] 4)).alloc (.cells #[.int .i64 0] 26):=⟨_,rfl⟩
 have m1:Mod No w w1:=by rw [hw1];exact ((Mod.refl No w).alloc _).alloc _
 have hp:w1.heap[w.heap.size]? = some (.cells #[.bool false] 4 (0,0)):=by
  rw [hw1];exact heap_alloc_old _ (heap_alloc_new w _)
 have hq:w1.heap[w.heap.size+1]? = some (.cells #[.int .i64 0] 26 (0,0)):=by
  rw [hw1];exact heap_at_new _ _ (by simp)
 have HF:=zh (hf w1 m1)
 have HW1:=zh hw1
 have M1:=zh m1
 have HP:=zh hp
 have HQ:=zh hq
 have HS:=zh hS
 clear hf hw1 m1 hp hq hS
 go_enter_defers func62,ntmps62
 go_wp2_with fail
 rw [<- HW1.out]
 refine HF.out.mono ?_
 clear HF
 rintro e wy ⟨hmy,hcase⟩
 have hpy:=hmy.keep HP.out (fun e=>by have:=HS.out _ e;omega)
 have hqy:=hmy.keep HQ.out (fun e=>by have:=HS.out _ e;omega)
 have HPQ:=zh (And.intro hpy hqy)
 have MY:=zh (show Mod S w wy from (M1.out.weaken fun _ _ f=>f.elim).trans hmy)
 clear HW1
 rcases hcase with ⟨rfl,hy⟩ | ⟨rfl,hn⟩
 ·have HY:=zh hy
  have p0:=cell_of (i:=0) hpy rfl
  have pf:=frozen_of 0 hpy
  have m2:Mod (fun q=>q=w.heap.size) wy (wy.setCell ⟨w.heap.size,0,none⟩ (.bool true)):=(Mod.refl (fun q=>q=w.heap.size) wy).setCell (fun _=>rfl) _
  have hq2:=m2.keep hqy (by omega)
  have q0:=cell_of (i:=0) hq2 rfl
  have qf:=frozen_of 0 hq2
  have hp2:=heap_setCell hpy (i:=0) (.bool true)
  have m3:Mod (fun q=>q=w.heap.size+1) (wy.setCell ⟨w.heap.size,0,none⟩ (.bool true)) ((wy.setCell ⟨w.heap.size,0,none⟩ (.bool true)).setCell ⟨w.heap.size+1,0,none⟩ (.int .i64 0)):=(Mod.refl (fun q=>q=w.heap.size+1) _).setCell (fun _=>rfl) _
  have R1:=zh (cell_of (i:=0) (m3.keep hp2 (by omega)) rfl)
  have R2:=zh (cell_of (i:=0) (heap_setCell hq2 (i:=0) (.int .i64 0)) rfl)
  have R3:=zh (show Mod (fun q=>q=w.heap.size\/q=w.heap.size+1) wy ((wy.setCell ⟨w.heap.size,0,none⟩ (.bool true)).setCell ⟨w.heap.size+1,0,none⟩ (.int .i64 0)) from
   ((Mod.refl (fun q=>q=w.heap.size\/q=w.heap.size+1) wy).setCell (fun _=>.inl rfl) _).setCell (fun _=>.inr rfl) _)
  clear hy hpy hqy m2 hq2 hp2 m3
  go_wp2_with fail
  refine leaves_cons (f:=123) (args:=#[.pointer (some ⟨w.heap.size,0,none⟩),.pointer (some ⟨w.heap.size+1,0,none⟩)]) (by simp) (by simp [go_sem]) ?_
  refine (stop_idle _ _ _).mono ?_
  rintro e u' w'' ⟨rfl,rfl,rfl⟩
  have r1:=R1.out
  have r2:=R2.out
  refine ⟨.tuple #[.bool true,.int .i64 0],?_,?_⟩
  ·simp [results,results62,go_sem,r1,r2]
  ·exact fin hR ⟨wy,MY.out,HPQ.out,R3.out,.inl ⟨rfl,HY.out⟩⟩
 ·have HNO:=zh hn
  clear hn
  go_wp2_with fail
  refine leaves_cons (f:=123) (args:=#[.pointer (some ⟨w.heap.size,0,none⟩),.pointer (some ⟨w.heap.size+1,0,none⟩)]) (by simp) (by simp [go_sem]) ?_
  refine (stop_caught _ _ _ _ _ hpy hqy).mono ?_
  rintro e u' w'' ⟨rfl,rfl,r1,r2,hm⟩
  have r1:=cell_of (i:=0) r1 rfl
  have r2:=cell_of (i:=0) r2 rfl
  refine ⟨.tuple #[.bool false,.int .i64 0],?_,?_⟩
  ·simp [results,results62,go_sem,r1,r2]
  ·exact fin hR ⟨wy,MY.out,HPQ.out,hm,.inr ⟨rfl,HNO.out⟩⟩
theorem getN_lt (l:List UInt8):getN l < 18446744073709551616:=by
 unfold getN
 generalize hz:(0:Nat)=z
 have hz':z < 18446744073709551616:=by omega
 clear hz
 induction l generalizing z with
 | nil=>exact hz'
 | cons x l ih=>exact ih _ (Nat.mod_lt _ (by omega))
theorem rd_turn {S:Nat->List UInt8} {h size side at_ next t beh:Nat} {rs:List (List UInt8)} (hs:0 < size) (e:rd S h size side at_ next=some (t,rs,beh)):t < 18446744073709551616:=by
 obtain ⟨_,_,_,h1,_⟩:=rd_some hs e
 rw [<- h1];exact getN_lt _
theorem mod2_u64 (t:Nat) (side:Nat):(((t:Int) % 2) == (side:Int))=decide (t % 2=side):=by
 rw [Bool.eq_iff_iff];simp;omega
set_option maxRecDepth 100000 in
set_option maxHeartbeats 1000000 in
theorem begin1_any {b sb mb p:Nat} {d:Dk} {w:World} (lv sv tv side:Nat) (t0:Value) (hs:side < 2) (hz:128<=d.sz) (hw:Well d) (h:DkAt w No b sb mb d) (c0:w.cell? ⟨p,0,none⟩=some (.pointer (some ⟨b,0,none⟩)))
  (hl:w.heap[lv]? = some (.cells #[.pointer (some ⟨p,0,none⟩)] 68 (0,0))) (hsv:w.heap[sv]? = some (.cells #[.int .i64 (side:Int)] 3 (0,0))) (htv:w.heap[tv]? = some (.cells #[t0] 130 (0,0))) :
  Calls prog 122 #[.pointer (some ⟨lv,0,none⟩),.pointer (some ⟨sv,0,none⟩),.pointer (some ⟨tv,0,none⟩)] w fun e w'=>Mod (fun q=>q=tv) w w' ∧
   ((e=.returned (.tuple #[])/\∃ t:Nat,firstT d.last (d.n / 2) (d.sz - 16) side=some t/\w'.heap[tv]? = some (.cells #[.int .u64 (t:Int)] 130 (0,0)))\/(e=Stopped/\firstT d.last (d.n / 2) (d.sz - 16) side=none)):=by
 refine calls_hide fun R hR=>?_
 have HO:=open_any (p:=p) side 0 0 hs (by omega) hz hw h c0
 have l0:=cell_of (i:=0) hl rfl
 have s0:=cell_of (i:=0) hsv rfl
 have HTV:=zh htv
 have HSV:=zh hsv
 have hst:sv ≠ tv:=fun e=>by subst e;rw [hsv] at htv;cases htv
 have hsz:0 < d.sz - 16:=by omega
 clear h c0 hw hl hsv htv
 unfold firstT at hR
 cases hrd:rd d.last (d.n / 2) (d.sz - 16) side 0 0 with
 | none =>
  rw [hrd] at HO hR
  have HO:=zh HO
  clear hrd
  go_enter func122,ntmps122
  go_wp2_with fail
  refine HO.out.mono ?_
  rintro e w1 ⟨rfl,hm⟩
  go_wp2_with fail
  exact ⟨rfl,fin hR ⟨hm.weaken fun _ _ f=>f.elim,.inr ⟨rfl,by trivial⟩⟩⟩
 | some q =>
  obtain ⟨t,rs,beh⟩:=q
  have htb:=rd_turn hsz hrd
  rw [hrd] at HO hR
  have HO:=zh HO
  clear hrd
  go_enter func122,ntmps122
  go_wp2_with fail
  refine HO.out.mono ?_
  clear HO
  rintro e w1 ⟨⟨v,rfl,_⟩,hm⟩
  have htv1:=hm.keep HTV.out (fun f=>f)
  have tc:=cell_of (i:=0) htv1 rfl
  have tf:=frozen_of 0 htv1
  have m2:Mod (fun q=>q=tv) w1 (w1.setCell ⟨tv,0,none⟩ (.int .u64 (t:Int))):=(Mod.refl (fun q=>q=tv) w1).setCell (fun _=>rfl) _
  have ht2:=heap_setCell htv1 (i:=0) (.int .u64 (t:Int))
  have t1:=cell_of (i:=0) ht2 rfl
  have s1:=cell_of (i:=0) (m2.keep (hm.keep HSV.out (fun f=>f)) hst) rfl
  have HT2:=zh ht2
  have M2:=zh ((hm.weaken (T:=fun q=>q=tv) fun _ _ f=>f.elim).trans m2)
  have hmod:=mod2_u64 t side
  clear hm htv1 m2 ht2
  by_cases hp:t % 2=side
  ·have hd:decide (t % 2=side)=true:=decide_eq_true hp
   rw [hd] at hmod
   have HPP:=zh hp
   clear hp hd
   go_wp2_with fail
   refine (must_yes 0 _).mono ?_
   rintro e w3 ⟨rfl,h3⟩
   subst h3
   go_wp2_with fail
   go_end0
   exact fin hR ⟨M2.out,.inl ⟨rfl,t,by rw [if_pos HPP.out],HT2.out⟩⟩
  ·have hd:decide (t % 2=side)=false:=decide_eq_false hp
   rw [hd] at hmod
   have HPP:=zh hp
   clear hp hd
   go_wp2_with fail
   refine (must_no _).mono ?_
   rintro e w3 ⟨rfl,h3⟩
   subst h3
   go_wp2_with fail
   exact ⟨rfl,fin hR ⟨M2.out,.inr ⟨rfl,by rw [if_neg HPP.out]⟩⟩⟩
set_option maxRecDepth 100000 in
set_option maxHeartbeats 2000000 in
theorem open1_any {b sb mb p ub:Nat} {d:Dk} {w:World} (lv rv bv' count:Nat) (L:Lg) (v0 v1:Value) (hnx:L.next+1 < 18446744073709551616) (hz:128<=d.sz) (hw:Well d) (h:DkAt w No b sb mb d)
  (hp:w.heap[p]? = some (LgObj b ub L.turn L.next L.at_ count)) (hl:w.heap[lv]? = some (.cells #[.pointer (some ⟨p,0,none⟩)] 68 (0,0))) (hrv:w.heap[rv]? = some (.cells #[v0] 69 (0,0))) (hbv:w.heap[bv']? = some (.cells #[v1] 3 (0,0))) :
  Calls prog 63 #[.pointer (some ⟨lv,0,none⟩),.pointer (some ⟨rv,0,none⟩),.pointer (some ⟨bv',0,none⟩)] w fun e w'=>Mod (fun q=>q=rv\/q=bv') w w' ∧
   ((e=.returned (.tuple #[])/\∃ (rs:List (List UInt8)) (beh:Nat) (v:Value),rd d.last (d.n / 2) (d.sz - 16) (L.turn % 2) L.at_ L.next=some (L.turn,rs,beh)/\w'.heap[rv]? = some (.cells #[v] 69 (0,0))/\OwnRecs w' w.heap.size v rs/\w'.heap[bv']? = some (.cells #[.int .i64 (beh:Int)] 3 (0,0))) ∨
    (e=Stopped/\Stop d.last (d.n / 2) (d.sz - 16) (L.turn % 2) L.turn L.at_ L.next)):=by
 refine calls_hide fun R hR=>?_
 have hside:L.turn % 2 < 2:=Nat.mod_lt _ (by omega)
 have c0:=cell_of (i:=0) hp rfl
 have HO:=open_any (p:=p) (w:=w.drew) (L.turn % 2) L.at_ L.next hside hnx hz hw (h.stay (Mod.refl No w).drew) c0
 have hS0:w.drew.cell? ⟨lv,0,none⟩=some (.pointer (some ⟨p,0,none⟩))/\w.drew.cell? ⟨p,1,none⟩=some (.int .u64 (L.turn:Int))/\w.drew.cell? ⟨p,2,none⟩=some (.int .u64 (L.next:Int))/\w.drew.cell? ⟨p,3,none⟩=some (.int .i64 (L.at_:Int)):=⟨cell_of (i:=0) hl rfl,cell_of (i:=1) hp rfl,cell_of (i:=2) hp rfl,cell_of (i:=3) hp rfl⟩
 have HRV:=zh hrv
 have HBV:=zh hbv
 have HPP:=zh hp
 have HLL:=zh hl
 have HRB:=zh (show rv ≠ bv' from fun e=>by subst e;rw [hrv] at hbv;cases hbv)
 have HPR:=zh (show ¬ (p=rv\/p=bv') from fun e=>by
  rcases e with e | e
  ·subst e;rw [hp] at hrv;cases hrv
  ·subst e;rw [hp] at hbv;cases hbv)
 have HLR:=zh (show ¬ (lv=rv\/lv=bv') from fun e=>by
  rcases e with e | e
  ·subst e;rw [hl] at hrv;cases hrv
  ·subst e;rw [hl] at hbv;cases hbv)
 have HE2:=zh (show IntKind.i64.wrap ((L.turn:Int).tmod 2)=((L.turn % 2:Nat):Int) by rw [Int.tmod_eq_emod_of_nonneg (Int.natCast_nonneg _),IntKind.wrap_i64];omega)
 clear h c0 hw hl hrv hbv hp
 unfold Stop at hR
 cases hrd:rd d.last (d.n / 2) (d.sz - 16) (L.turn % 2) L.at_ L.next with
 | none =>
  rw [hrd] at HO hR
  have HOP:=zh HO
  clear HO hrd
  go_enter func63,ntmps63
  go_upto_region 0 with fail
  refine wp_region_T (fun w'=>w'.cell? ⟨lv,0,none⟩=some (.pointer (some ⟨p,0,none⟩))/\w'.cell? ⟨p,1,none⟩=some (.int .u64 (L.turn:Int))/\w'.cell? ⟨p,2,none⟩=some (.int .u64 (L.next:Int))/\w'.cell? ⟨p,3,none⟩=some (.int .i64 (L.at_:Int))) 22 (by kernel_rfl) ?_
  refine yR 0 7 hS0 ?_
  refine yR 1 8 hS0 ?_
  refine yR 2 9 hS0 ?_
  refine yR 3 10 hS0 ?_
  refine yR 4 11 hS0 ?_
  refine yR 5 12 hS0 ?_
  refine yR 6 13 hS0 ?_
  refine yR 7 14 hS0 ?_
  refine yR 8 15 hS0 ?_
  refine yR 9 16 hS0 ?_
  refine yR 10 17 hS0 ?_
  refine yR 11 18 hS0 ?_
  refine yR 12 19 hS0 ?_
  refine yR 13 20 hS0 ?_
  refine yR 14 21 hS0 ?_
  refine wpAnyT_one 15 rfl (by kernel_rfl) rfl ?_
  intro K hK
  go_simp
  go_at_call 64
  rw [HE2.out]
  refine HOP.out.mono ?_
  rintro e w1 ⟨rfl,hm1⟩
  exact ⟨rfl,fin hR ⟨((Mod.refl No w).drew.trans hm1).weaken fun _ _ f=>f.elim,.inr ⟨rfl,fun _ _ e=>by cases e⟩⟩⟩
 | some q =>
  obtain ⟨t,rs,beh⟩:=q
  rw [hrd] at HO hR
  have HOP:=zh HO
  clear HO hrd
  go_enter func63,ntmps63
  go_upto_region 0 with fail
  refine wp_region_T (fun w'=>w'.cell? ⟨lv,0,none⟩=some (.pointer (some ⟨p,0,none⟩))/\w'.cell? ⟨p,1,none⟩=some (.int .u64 (L.turn:Int))/\w'.cell? ⟨p,2,none⟩=some (.int .u64 (L.next:Int))/\w'.cell? ⟨p,3,none⟩=some (.int .i64 (L.at_:Int))) 22 (by kernel_rfl) ?_
  refine yR 0 7 hS0 ?_
  refine yR 1 8 hS0 ?_
  refine yR 2 9 hS0 ?_
  refine yR 3 10 hS0 ?_
  refine yR 4 11 hS0 ?_
  refine yR 5 12 hS0 ?_
  refine yR 6 13 hS0 ?_
  refine yR 7 14 hS0 ?_
  refine yR 8 15 hS0 ?_
  refine yR 9 16 hS0 ?_
  refine yR 10 17 hS0 ?_
  refine yR 11 18 hS0 ?_
  refine yR 12 19 hS0 ?_
  refine yR 13 20 hS0 ?_
  refine yR 14 21 hS0 ?_
  refine wpAnyT_one 15 rfl (by kernel_rfl) rfl ?_
  intro K hK
  go_simp
  go_at_call 64
  rw [HE2.out]
  refine HOP.out.mono ?_
  rintro e w1 ⟨⟨v,rfl,hrecs⟩,hm1⟩
  have hS1:w1.cell? ⟨lv,0,none⟩=some (.pointer (some ⟨p,0,none⟩))/\w1.cell? ⟨p,1,none⟩=some (.int .u64 (L.turn:Int))/\w1.cell? ⟨p,2,none⟩=some (.int .u64 (L.next:Int))/\w1.cell? ⟨p,3,none⟩=some (.int .i64 (L.at_:Int)):=⟨hm1.cell hS0.1 (fun f=>f),hm1.cell hS0.2.1 (fun f=>f),hm1.cell hS0.2.2.1 (fun f=>f),hm1.cell hS0.2.2.2 (fun f=>f)⟩
  show K _ _
  refine hK.out _ _ (fun _=>hS1) ?_
  clear hK K
  refine yR 16 6 hS1 ?_
  refine yR 17 23 hS1 ?_
  refine yR 18 24 hS1 ?_
  refine yR 19 25 hS1 ?_
  refine yR 20 3 hS1 ?_
  refine yR 21 4 hS1 ?_
  refine wpAnyT_one 22 rfl (by kernel_rfl) rfl ?_
  intro K hK
  go_simp
  show K _ _
  refine hK.out _ _ (fun h=>absurd rfl h) ?_
  clear hK K
  refine wpAnyT_done (by kernel_rfl) ?_ _
  have p1:=hS1.2.1
  have l1:=hS1.1
  have MW:=zh ((Mod.refl No w).drew.trans hm1)
  obtain ⟨vs9,-,e29,-⟩:=hrecs.row
  obtain ⟨va,vc,rfl⟩:=own_len e29
  have HRE:=zh hrecs
  clear e29 vs9
  clear hS1 hm1 hrecs HOP
  by_cases ht:t=L.turn
  ·subst ht
   have hrv1:=MW.out.keep HRV.out (fun f=>f)
   have hbv1:=MW.out.keep HBV.out (fun f=>f)
   have rc:=cell_of (i:=0) hrv1 rfl
   have rf:=frozen_of 0 hrv1
   have m2:Mod (fun q=>q=rv) w1 (w1.setCell ⟨rv,0,none⟩ (.slice va rs.length vc)):=(Mod.refl (fun q=>q=rv) w1).setCell (fun _=>rfl) _
   have hb2:=m2.keep hbv1 (Ne.symm HRB.out)
   have bc:=cell_of (i:=0) hb2 rfl
   have bf:=frozen_of 0 hb2
   have hr2:=heap_setCell hrv1 (i:=0) (.slice va rs.length vc)
   have m3:Mod (fun q=>q=bv') (w1.setCell ⟨rv,0,none⟩ (.slice va rs.length vc)) ((w1.setCell ⟨rv,0,none⟩ (.slice va rs.length vc)).setCell ⟨bv',0,none⟩ (.int .i64 (beh:Int))):=(Mod.refl (fun q=>q=bv') _).setCell (fun _=>rfl) _
   have R1:=zh (m3.keep hr2 HRB.out)
   have R2:=zh (heap_setCell hb2 (i:=0) (.int .i64 (beh:Int)))
   have m4:Mod (fun q=>q=rv\/q=bv') w1 ((w1.setCell ⟨rv,0,none⟩ (.slice va rs.length vc)).setCell ⟨bv',0,none⟩ (.int .i64 (beh:Int))):=((Mod.refl (fun q=>q=rv\/q=bv') w1).setCell (fun _=>.inl rfl) _).setCell (fun _=>.inr rfl) _
   have R3:=zh ((MW.out.weaken (T:=fun q=>q=rv\/q=bv') fun _ _ f=>f.elim).trans m4)
   have R4:=zh (show OwnRecs ((w1.setCell ⟨rv,0,none⟩ (.slice va rs.length vc)).setCell ⟨bv',0,none⟩ (.int .i64 (beh:Int))) w.heap.size (.slice va rs.length vc) rs by
    obtain ⟨vs,e1,e2,e3⟩:=HRE.out.row
    have hlt1:=lt_of_heap HRV.out
    have hlt2:=lt_of_heap HBV.out
    refine ⟨vs,e1,own_keepM e2 m4 (fun k hk e=>?_),fun j u r hu hr=>(e3 j u r hu hr).keep m4 fun k cur fz e hx=>absurd (show k < w.heap.size by rcases e with e | e <;> omega) hx⟩
    have:=(e2.lt k hk).1
    rcases e with e | e
    ·have:w.heap.size<=k:=this
     omega
    ·have:w.heap.size<=k:=this
     omega)
   clear hrv1 hbv1 m2 hb2 hr2 m3 m4
   go_wp2_with fail
   refine (must_yes 0 _).mono ?_
   rintro e w3 ⟨rfl,h3⟩
   subst h3
   go_wp2_with fail
   go_end0
   exact fin hR ⟨R3.out,.inl ⟨rfl,rs,beh,_,rfl,R1.out,R4.out,R2.out⟩⟩
  ·have hte:((t:Int) == (L.turn:Int))=false:=by simp;omega
   go_wp2_with fail
   refine (must_no _).mono ?_
   rintro e w3 ⟨rfl,h3⟩
   subst h3
   go_wp2_with fail
   exact ⟨rfl,fin hR ⟨MW.out.weaken fun _ _ f=>f.elim,.inr ⟨rfl,fun _ _ e=>by cases e;exact ht rfl⟩⟩⟩
def bgK (S:Nat->List UInt8) (h size:Nat):Nat->Bool × Nat
 | 0=>(false,0)
 | k+1=>bgStep S h size (bgK S h size k) k
theorem firstT_lt {S:Nat->List UInt8} {h size side t:Nat} (hs:0 < size) (e:firstT S h size side=some t):t < 18446744073709551616:=by
 unfold firstT at e
 split at e
 ·rename_i hrd
  split at e
  ·cases e;exact rd_turn hs hrd
  ·cases e
 ·cases e
theorem bgK_lt {S:Nat->List UInt8} {h size:Nat} (hs:0 < size):∀ k,(bgK S h size k).2 < 18446744073709551616
 | 0=>by show 0 < 18446744073709551616;omega
 | k+1=>by
  show (bgStep S h size (bgK S h size k) k).2 < _
  unfold bgStep
  split
  ·rename_i t ht
   split
   ·exact firstT_lt hs ht
   ·exact bgK_lt hs k
  ·exact bgK_lt hs k
theorem later_is (t p:Nat) (ht:t < 18446744073709551616) (hp:p < 18446744073709551616):later t p=decide (0 < wrap64 (IntKind.u64.wrap ((t:Int) - (p:Int)))):=by
 unfold later wrap64
 rw [IntKind.wrap_u64,Bool.eq_iff_iff,decide_eq_true_iff,decide_eq_true_iff]
 omega
set_option maxRecDepth 100000 in
set_option maxHeartbeats 4000000 in
theorem begin_any {b sb mb p ub:Nat} {d:Dk} {w:World} (hz:128<=d.sz) (hw:Well d) (h:DkAt w No b sb mb d) (hpo:¬ Own3 b sb mb p) (hp:w.heap[p]? = some (LgObj b ub 0 0 0 0)) :
  Calls prog 61 #[.pointer (some ⟨p,0,none⟩)] w fun e w'=>e=.returned (.int .i64 0)/\w'.heap[p]? = some (LgObj b ub (turnOf d.last (d.n / 2) (d.sz - 16)) 0 0 0)/\Mod (fun q=>q=p) w w':=by
 refine calls_hide fun R hR=>?_
 have HD:=zh h
 have HW:=zh hw
 have HP:=zh hp
 have HPO:=zh hpo
 have hmf:∀ (fn:Fn) (first cap:Array Value) (w:World),(Instr.makeFunc fn first cap).run prog w=.ok (.func fn first cap) w:=fun _ _ _ _=>rfl
 have hsz:0 < d.sz - 16:=by omega
 obtain ⟨lv,hlv⟩:∃ lv,lv=w.heap.size:=⟨_,rfl⟩
 obtain ⟨w1,hw1⟩:∃ w1,w1=w.alloc (.cells #[.pointer (some ⟨p,0,none⟩)] 68):=⟨_,rfl⟩
 have hl1:w1.heap[lv]? = some (.cells #[.pointer (some ⟨p,0,none⟩)] 68 (0,0)):=by rw [hw1];exact heap_at_new w _ hlv
 have hm1:Mod (fun q=>q=p) w w1:=by rw [hw1];exact (Mod.refl _ w).alloc _
 have hp1:w1.heap[p]? = some (LgObj b ub 0 0 0 0):=by rw [hw1];exact heap_alloc_old _ hp
 have HL1:=zh hl1
 have HM1:=zh hm1
 have HP1:=zh hp1
 have HLP:=zh (show ¬ lv=p from fun e=>by have:=lt_of_heap hp;omega)
 have HLV:=zh hlv
 have HW1:=zh hw1
 clear h hw hp hpo hw1 hl1 hm1 hp1 hlv
 go_enter func61,ntmps61
 go_wp2_with fail
 rw [<- HW1.out,<- HLV.out]
 go_loopw [3,8] (fun fo i wr=>∃ k:Nat,k<=2/\i=.int .i64 k/\fo=.bool (bgK d.last (d.n / 2) (d.sz - 16) k).1/\wr.heap[p]? = some (LgObj b ub (bgK d.last (d.n / 2) (d.sz - 16) k).2 0 0 0)/\wr.heap[lv]? = some (.cells #[.pointer (some ⟨p,0,none⟩)] 68 (0,0))/\Mod (fun q=>q=p) w wr) (fun _ i _=>2 - (intOf i).toNat)
 case atStart=>exact ⟨0,by omega,rfl,rfl,HP1.out,HL1.out,HM1.out⟩
 case round =>
  clear HP1 HL1 HM1 HW1
  obtain ⟨k,hk,rfl,rfl,hp,hl,hm⟩:=hrel
  have hk0:(0:Int)<=(k:Int):=Int.natCast_nonneg _
  by_cases hk2:k < 2
  ·have hk1:(k:Int) < 2:=by omega
   have hpb:=bgK_lt (S:=d.last) (h:=d.n / 2) hsz k
   obtain ⟨pf,pt,hpk⟩:∃ pf pt,bgK d.last (d.n / 2) (d.sz - 16) k=(pf,pt):=⟨_,_,rfl⟩
   have HNEXT:=zh (show bgK d.last (d.n / 2) (d.sz - 16) (k+1)=bgStep d.last (d.n / 2) (d.sz - 16) (pf,pt) k from by rw [<- hpk];rfl)
   rw [hpk] at hp hpb ⊢
   have hdk:DkAt wr No b sb mb d:=HD.out.keep hm (fun e=>HPO.out (.inl e.symm)) (fun e=>HPO.out (.inr (.inl e.symm))) (fun e=>HPO.out (.inr (.inr e.symm))) (fun q hq=>.inr fun cur fz e=>by subst hq;rw [HP.out] at e;cases e)
   obtain ⟨w2,hw2⟩:∃ w2,w2=(wr.alloc (.cells #[.int .i64 (k:Int)] 3)).alloc (.cells #[.int .u64 0] 130):=⟨_,rfl⟩
   have m2:Mod No wr w2:=by rw [hw2];exact ((Mod.refl No wr).alloc _).alloc _
   have hs2:w2.heap[wr.heap.size]? = some (.cells #[.int .i64 (k:Int)] 3 (0,0)):=by rw [hw2];exact heap_alloc_old _ (heap_alloc_new wr _)
   have ht2:w2.heap[wr.heap.size+1]? = some (.cells #[.int .u64 0] 130 (0,0)):=by rw [hw2];exact heap_at_new _ _ (by simp)
   have hz2:w2.heap.size=wr.heap.size+2:=by rw [hw2];simp
   have hlp:=lt_of_heap hp
   have hll:=lt_of_heap hl
   have HTRY:=try_begin (.pointer (some ⟨lv,0,none⟩)) (.pointer (some ⟨wr.heap.size,0,none⟩)) (.pointer (some ⟨wr.heap.size+1,0,none⟩)) w2 (fun q=>q=wr.heap.size+1)
    (fun w'=>∃ t:Nat,firstT d.last (d.n / 2) (d.sz - 16) k=some t/\w'.heap[wr.heap.size+1]? = some (.cells #[.int .u64 (t:Int)] 130 (0,0))) (fun _=>firstT d.last (d.n / 2) (d.sz - 16) k=none)
    (fun q e=>by omega)
    (fun w3 hm3=>begin1_any lv wr.heap.size (wr.heap.size+1) k _ hk2 hz HW.out ((hdk.stay m2).stay hm3) (cell_of (i:=0) ((m2.trans hm3).keep hp (fun f=>f)) rfl) ((m2.trans hm3).keep hl (fun f=>f)) (hm3.keep hs2 (fun f=>f)) (hm3.keep ht2 (fun f=>f)))
   have HTRY:=zh HTRY
   have HW2:=zh hw2
   have HPP:=zh hp
   have HLL:=zh hl
   have HMM:=zh hm
   have M2:=zh m2
   have HZ2:=zh hz2
   obtain ⟨tv,htv⟩:∃ tv,tv=wr.heap.size+1:=⟨_,rfl⟩
   have HTV:=zh htv
   clear hdk hw2 m2 hs2 ht2 hz2 hp hl hm hpk htv
   go_wp2_with fail
   rw [<- HW2.out]
   refine HTRY.out.mono ?_
   clear HTRY
   rintro e w5 ⟨w4,hm4,-,hm5,hcase⟩
   have hz2:=HZ2.out
   have hp4:=hm4.keep (M2.out.keep HPP.out (fun f=>f)) (by omega)
   have hl4:=hm4.keep (M2.out.keep HLL.out (fun f=>f)) (by omega)
   have hz4:=hm4.size
   have hp5:=hm5.keep hp4 (by omega)
   have hl5:=hm5.keep hl4 (by omega)
   have M5:=zh (show Mod (fun q=>q=p) wr w5 from ((M2.out.weaken fun _ _ f=>f.elim).then hm4 fun i hi e=>by omega).then hm5 fun i hi e=>by omega)
   have p1:=cell_of (i:=1) hp5 rfl
   have l0:=cell_of (i:=0) hl5 rfl
   have pfz:=frozen_of 1 hp5
   have HP5:=zh hp5
   have HL5:=zh hl5
   rcases hcase with ⟨rfl,t,hft,ht4⟩ | ⟨rfl,hno⟩
   ·have ht5:=hm5.keep ht4 (by omega)
    have t0:=cell_of (i:=0) ht5 rfl
    have htb:=firstT_lt hsz hft
    have HFT:=zh hft
    clear hm4 hm5 hp4 hl4 hp5 hl5 ht4 ht5 hft hz2 hz4 hlp hll
    cases pf with
    | false =>
     go_upto_region 9 with fail
     go_quiet (fail)
     go_wp2_with fail
     have hb:bgK d.last (d.n / 2) (d.sz - 16) (k+1)=(true,t):=by rw [HNEXT.out];unfold bgStep;rw [HFT.out];rfl
     exact ⟨⟨k+1,by omega,by go_num,by rw [hb],by rw [hb,heap_setCell (show (World.drewN w5 _).heap[p]? = _ from HP5.out)];rfl,by rw [heap_setCell_ne _ HLP.out];exact HL5.out,((HMM.out.trans M5.out).drewN _).setCell (fun _=>rfl) _⟩,by go_light;simp only [intOf];omega⟩
    | true =>
     have hli:=later_is t pt htb hpb
     by_cases hlat:later t pt=true
     ·rw [hlat] at hli
      have hpos:0 < wrap64 (IntKind.u64.wrap ((t:Int) - (pt:Int))):=of_decide_eq_true hli.symm
      have HLAT:=zh hlat
      clear hli hlat
      go_upto_region 9 with fail
      go_quiet (fail)
      go_wp2_with fail
      have hb:bgK d.last (d.n / 2) (d.sz - 16) (k+1)=(true,t):=by rw [HNEXT.out];unfold bgStep;rw [HFT.out];dsimp only;rw [HLAT.out];rfl
      exact ⟨⟨k+1,by omega,by go_num,by rw [hb],by rw [hb,heap_setCell (show (World.drewN w5 _).heap[p]? = _ from HP5.out)];rfl,by rw [heap_setCell_ne _ HLP.out];exact HL5.out,((HMM.out.trans M5.out).drewN _).setCell (fun _=>rfl) _⟩,by go_light;simp only [intOf];omega⟩
     ·have hlat:later t pt=false:=by simpa using hlat
      rw [hlat] at hli
      have hneg:wrap64 (IntKind.u64.wrap ((t:Int) - (pt:Int)))<=0:=Int.not_lt.1 (of_decide_eq_false hli.symm)
      have HLAT:=zh hlat
      clear hli hlat
      go_upto_region 9 with fail
      go_quiet (fail)
      go_wp2_with fail
      have hb:bgK d.last (d.n / 2) (d.sz - 16) (k+1)=(true,pt):=by rw [HNEXT.out];unfold bgStep;rw [HFT.out];dsimp only;rw [HLAT.out];rfl
      exact ⟨⟨k+1,by omega,by go_num,by rw [hb],by rw [hb];exact HP5.out,HL5.out,(HMM.out.trans M5.out).drewN _⟩,by go_light;simp only [intOf];omega⟩
   ·have HNO:=zh hno
    clear hm4 hm5 hp4 hl4 hp5 hl5 hno hz2 hz4 hlp hll
    go_upto_region 9 with fail
    go_quiet (fail)
    go_wp2_with fail
    have hb:bgK d.last (d.n / 2) (d.sz - 16) (k+1)=(pf,pt):=by rw [HNEXT.out];unfold bgStep;rw [HNO.out]
    exact ⟨⟨k+1,by omega,by go_num,by rw [hb],by rw [hb];exact HP5.out,HL5.out,(HMM.out.trans M5.out).drewN _⟩,by go_light;simp only [intOf];omega⟩
  ·have hk3:k=2:=by omega
   subst hk3
   have HPP:=zh hp
   have HMM:=zh hm
   clear hp hl hm
   go_wp2_with fail
   exact fin hR ⟨rfl,HPP.out,HMM.out⟩
end Go.Proofs.YtmppeipgjcjdkaaGreatDoor
