/-
  Layers 0 to 14: helps of the laws of indexes. No statement is proved here; no condition.
-/
import Derived.Test.YtgiigemfbebcgaaGreatDoorU44
import Derived.Test.YtgiigemfbebcgaaGreatDoorU43
namespace Go.Proofs.YtgiigemfbebcgaaGreatDoor
open _root_.Go.Proofs.Tryz
open Go.RowKit Go.Sort
def pin1:PnX:=⟨⟨[120],⟨0,0,0,[]⟩,List.replicate 32 0⟩,.slice none 0 0⟩
def lock1:List UInt8:=[108,111,99,107,32,49,10,120,32,48,46,48,46,48,32]++noughts++[10]
theorem lock1_text:(lockHead++(sortR ltPx [pin1]).flatMap fun x=>pinT x.p)=lock1:=by decide +kernel
theorem lock1_cut:(⟨lock1.toArray⟩:ByteArray).extract 15 79=⟨noughts.toArray⟩:=by decide +kernel
theorem lock1_len:lock1.length=80:=by decide +kernel
theorem lock_one (w:World) (v:Value) (hv:Sl w No 61 v 1 (PnX.cells pin1)) :
  Calls prog 26 #[v] w fun e w'=>e=.returned (strV lock1)/\Mod No w w':=by
 have h:=locktext_any [pin1] (by decide) v w (fun x hx=>by
  obtain rfl:x=pin1:=by simpa using hx
  exact ⟨⟨rfl,_,_,_,rfl⟩,.inl ⟨rfl,rfl,rfl⟩,⟨by decide,fun x hx=>by cases hx⟩,by decide,by decide,by decide⟩) (by simpa using hv) (by rw [lock1_text,lock1_len];decide)
 rw [lock1_text] at h
 exact h
theorem pack_cats (k:Nat) (h:k < 1000) (Z0 D N Z5:ByteArray) (h0:Z0=⟨(packsT k).toArray⟩) (hd:D=⟨(decT k).toArray⟩) (hn:N=⟨noughts.toArray⟩) (h5:Z5=⟨(packsT (k+1)).toArray⟩) :
  ∃ Z1 Z2 Z3 Z4:ByteArray,(Z0 ++ ⟨#[112,97,99,107,32,112,32,49,46,48,46]⟩=Z1/\Z1++D=Z2/\Z2 ++ ⟨#[32]⟩=Z3/\Z3++N=Z4/\Z4 ++ ⟨#[32,53,10]⟩=Z5) ∧
   (¬ (9223372036854775807 < Z0.size+11)/\¬ (9223372036854775807 < Z1.size+D.size)/\¬ (9223372036854775807 < Z2.size+1)/\¬ (9223372036854775807 < Z3.size+N.size)/\¬ (9223372036854775807 < Z4.size+3)):=by
 have l0:=packs_len (k:=k) (by omega)
 have l1:=dec_few h
 have e0:=str_len3 (packsT k)
 have e1:=str_len3 (decT k)
 have e2:noughts.length=64:=rfl
 have e3:=str_len3 (packsT k++[112,97,99,107,32,112,32,49,46,48,46])
 have e4:=str_len3 (packsT k++[112,97,99,107,32,112,32,49,46,48,46]++decT k)
 have e5:=str_len3 (packsT k++[112,97,99,107,32,112,32,49,46,48,46]++decT k++[32])
 have e6:=str_len3 (packsT k++[112,97,99,107,32,112,32,49,46,48,46]++decT k++[32]++noughts)
 have e7:=str_len3 noughts
 simp only [List.length_append,List.length_cons,List.length_nil] at e3 e4 e5 e6
 subst h0 hd hn h5
 refine ⟨_,_,_,_,⟨str_app _ _,str_app _ _,str_app _ _,str_app _ _,?_⟩,by omega,by omega,by omega,by omega,by omega⟩
 rw [packs_next]
 refine (str_app _ [32,53,10]).trans ?_
 simp only [packI,List.append_assoc]
theorem need_cats (k:Nat) (h:k < 1000) (Z0 D Z3:ByteArray) (h0:Z0=⟨(needsT k).toArray⟩) (hd:D=⟨(decT k).toArray⟩) (h5:Z3=⟨(needsT (k+1)).toArray⟩) :
  ∃ Z1 Z2:ByteArray,(Z0 ++ ⟨#[110,101,101,100,32,110]⟩=Z1/\Z1++D=Z2/\Z2 ++ ⟨#[32,42,10]⟩=Z3) ∧
   (¬ (9223372036854775807 < Z0.size+6)/\¬ (9223372036854775807 < Z1.size+D.size)/\¬ (9223372036854775807 < Z2.size+3)):=by
 have l0:=needsT_len (k:=k) (by omega)
 have l1:=dec_few h
 have e0:=str_len3 (needsT k)
 have e1:=str_len3 (decT k)
 have e3:=str_len3 (needsT k++[110,101,101,100,32,110])
 have e4:=str_len3 (needsT k++[110,101,101,100,32,110]++decT k)
 simp only [List.length_append,List.length_cons,List.length_nil] at e3 e4
 subst h0 hd h5
 refine ⟨_,_,⟨str_app _ _,str_app _ _,?_⟩,by omega,by omega,by omega⟩
 rw [needs_next]
 refine (str_app _ [32,42,10]).trans ?_
 simp only [needI,List.append_assoc]
theorem head_cats (N Z2:ByteArray) (hn:N=⟨noughts.toArray⟩) (h5:Z2=⟨(needsT 0).toArray⟩) :
  ∃ Z1:ByteArray,((⟨#[112,97,99,107,32,112,32,49,46,48,46,48,32]⟩:ByteArray)++N=Z1/\Z1 ++ ⟨#[32,53,10]⟩=Z2) ∧
   (¬ (9223372036854775807 < 13+N.size)/\¬ (9223372036854775807 < Z1.size+3)):=by
 have e2:noughts.length=64:=rfl
 have e3:=str_len3 ([112,97,99,107,32,112,32,49,46,48,46,48,32]++noughts)
 have e7:=str_len3 noughts
 simp only [List.length_append,List.length_cons,List.length_nil] at e3
 subst hn h5
 refine ⟨_,⟨str_app [112,97,99,107,32,112,32,49,46,48,46,48,32] _,?_⟩,by omega,by omega⟩
 refine (str_app _ [32,53,10]).trans ?_
 simp only [needsT,List.append_assoc,List.range_zero,List.flatMap_nil,List.append_nil]
set_option maxRecDepth 100000 in
set_option maxHeartbeats 16000000 in
theorem many_any (a b:Nat) (ha:a < 256) (hb:b < 256) (w:World) (G:World->Prop) (hgl:G w) (hst:∀ w w',G w->Mod No w w'->G w')
  (hkn:∀ W,G W->Calls prog 7 #[] W fun e w'=>e=.returned (.bool true)/\Mod No W w')
  (hpx:∀ s W,s.length<=100000->G W->Calls prog 11 #[strV s] W fun e w'=>IxAns s e w'/\Mod No W w') :
  Calls prog 5 #[.int .u8 (a:Int),.int .u8 (b:Int)] w fun e w'=>e=.returned (.bool true)/\Mod No w w':=by
 refine calls_hide fun R hR=>?_
 have HG:=zh hgl
 have HST:=zh hst
 have HPX:=zh hpx
 have HKN:=zh (hkn w hgl)
 clear hgl hst hkn hpx
 obtain ⟨r,hr,hr5⟩:∃ r:Nat,r=a % 5/\r < 5:=⟨_,rfl,by omega⟩
 obtain ⟨d,hd,hd24⟩:∃ d:Nat,d=b % 24/\d < 24:=⟨_,rfl,by omega⟩
 have hm5:(a:Int).tmod 5=(r:Int):=by rw [hr];exact (Int.ofNat_tmod a 5).symm
 have hm24:(b:Int).tmod 24=(d:Int):=by rw [hd];exact (Int.ofNat_tmod b 24).symm
 have ha0:(0:Int)<=(a:Int)/\(a:Int) < 256:=by omega
 have hb0:(0:Int)<=(b:Int)/\(b:Int) < 256:=by omega
 have hr0:(0:Int)<=(r:Int)/\(r:Int) < 5:=by omega
 have hd0:(0:Int)<=(d:Int)/\(d:Int) < 24:=by omega
 obtain ⟨n,hn⟩:∃ n,n=198+r:=⟨_,rfl⟩
 have hnr:(198:Int)+(r:Int)=(n:Int):=by omega
 have hn2:198<=n/\n<=202:=by omega
 clear hr hd hn
 go_enter func5,ntmps5
 go_wp2_with fail
 with_reducible refine HKN.out.mono ?_
 rintro e w1 ⟨rfl,hm1⟩
 have HM1:=zh hm1
 clear hm1 HKN
 go_wp2_with fail
 obtain ⟨ZL,hZL⟩:∃ Z:ByteArray,Z=⟨lock1.toArray⟩:=⟨_,rfl⟩
 obtain ⟨ZN,hZN⟩:∃ Z:ByteArray,Z=⟨noughts.toArray⟩:=⟨_,rfl⟩
 have hzs:ZL.size=80:=by rw [hZL];exact lock1_len
 have hcut:ZL.extract 15 79=ZN:=by rw [hZL,hZN];exact lock1_cut
 have hlk:=lock_one (w1.alloc (.cells (PnX.cells pin1).toArray 61)) (.slice (some ⟨w1.heap.size,0,none⟩) 1 1) (sl_new w1 61 (PnX.cells pin1) (Nat.le_refl 1) (by unfold maxLen;omega))
 unfold strV at hlk
 rw [<- hZL] at hlk
 have HZN:=zh hZN
 have HLK:=zh hlk
 clear hZL hZN hlk
 refine HLK.out.mono ?_
 rintro e w3 ⟨rfl,hm3⟩
 have HM3:=zh (HM1.out.trans (((Mod.refl No w1).alloc _).trans hm3))
 clear hm3 HLK HM1
 go_wp2_with fail
 clear hzs hcut
 go_loopw [7,8] (fun q7 q8 wr=>∃ k:Nat,k<=n/\q8=.int .i64 (k:Int)/\q7=strV (packsT k)/\Mod No w3 wr) (fun _ q _=>n - (intOf q).toNat)
 case atStart=>exact ⟨0,by omega,rfl,rfl,Mod.refl _ _⟩
 case round =>
  obtain ⟨k,hk,rfl,rfl,hm⟩:=hrel
  have HM:=zh hm
  clear hm
  have hk0:(0:Int)<=(k:Int):=Int.natCast_nonneg _
  by_cases hlt:k < n
  ·have hk1:(k:Int) < (n:Int):=by omega
   obtain ⟨D,hD⟩:∃ Z:ByteArray,Z=⟨(decT k).toArray⟩:=⟨_,rfl⟩
   obtain ⟨Z0,hZ0⟩:∃ Z:ByteArray,Z=⟨(packsT k).toArray⟩:=⟨_,rfl⟩
   obtain ⟨Z5,hZ5⟩:∃ Z:ByteArray,Z=⟨(packsT (k+1)).toArray⟩:=⟨_,rfl⟩
   have HDC:=zh (fun W=>show Calls prog 27 #[.int .i64 (k:Int)] W fun e w'=>e=.returned (.string D)/\Mod No W w' from by
    have h:=dec_any (k:Int) (by omega) W
    unfold strV at h
    rw [Int.toNat_natCast,<- hD] at h
    exact h)
   obtain ⟨Z1,Z2,Z3,Z4,⟨c1,c2,c3,c4,c5⟩,s1,s2,s3,s4,s5⟩:=pack_cats k (by omega) Z0 D ZN Z5 hZ0 hD HZN.out hZ5
   have HZ5:=zh hZ5
   unfold strV
   rw [<- hZ0]
   clear hD hZ0 hZ5
   go_wp2_with fail
   with_reducible refine (HDC.out _).mono ?_
   rintro e w4 ⟨rfl,hm4⟩
   have HM4:=zh (HM.out.trans hm4)
   clear hm4 HDC
   go_wp2_with fail
   exact ⟨⟨k+1,by omega,by simp,by rw [<- HZ5.out],HM4.out⟩,by show n - ((k:Int)+1).toNat < n - (k:Int).toNat;omega⟩
  ·obtain rfl:k=n:=by omega
   have hk1:¬ ((k:Int) < (k:Int)):=by omega
   have HM4:=zh (HM3.out.trans HM.out)
   clear HM
   go_wp2_with fail
   clear hk1 hk hlt
   with_reducible refine (HPX.out _ wr (Nat.le_trans (packs_len (by omega)) (by omega)) (HST.out _ _ HG.out HM4.out)).mono ?_
   rintro e w5 ⟨⟨pa,pn,pc,rfl,hlr,-⟩,hmm⟩
   have HM5:=zh (HM4.out.trans hmm)
   have hix:=packs_ix hn2.1 hn2.2
   obtain ⟨ti,hti⟩:∃ t,t=jI (packsT k):=⟨_,rfl⟩
   obtain ⟨te,hte⟩:∃ t,t=jE (packsT k):=⟨_,rfl⟩
   obtain ⟨tl,htl⟩:∃ t,t=(jR (packsT k)).length:=⟨_,rfl⟩
   rw [<- hti,<- hte] at hix ⊢
   rw [<- htl] at hix hlr
   have hcase:(200 < k/\te=65/\ti=201)\/(k<=200/\te=0/\pn=k):=by
    by_cases h:200 < k
    ·exact .inl ⟨h,hix.1 h⟩
    ·exact .inr ⟨by omega,(hix.2 (by omega)).1,by rw [<- hlr];exact (hix.2 (by omega)).2⟩
   clear hix hti hte htl hlr hmm HM4 hn2 hnr
   obtain ⟨Y2,hY2⟩:∃ Z:ByteArray,Z=⟨(needsT 0).toArray⟩:=⟨_,rfl⟩
   obtain ⟨Y1,⟨d1,d2⟩,t1,t2⟩:=head_cats ZN Y2 HZN.out hY2
   have HY2:=zh hY2
   clear hY2
   rcases hcase with ⟨g1,rfl,rfl⟩ | ⟨g1,rfl,rfl⟩
   ·have i1:(200:Int) < (k:Int):=by omega
    have i2:¬ ((k:Int)<=200):=by omega
    go_wp2_with fail
    clear d1 d2 t1 t2 g1 i1 i2 hm5 hm24 ha0 hb0 hr0
    go_loopw [7,13] (fun q7 q8 wr=>∃ k:Nat,k<=d/\q8=.int .i64 (k:Int)/\q7=strV (needsT k)/\Mod No w5 wr) (fun _ q _=>d - (intOf q).toNat)
    case atStart=>exact ⟨0,by omega,rfl,by rw [HY2.out],Mod.refl _ _⟩
    case round =>
     obtain ⟨j,hj,rfl,rfl,hm⟩:=hrel
     have HM:=zh hm
     clear hm
     have hj0:(0:Int)<=(j:Int):=Int.natCast_nonneg _
     by_cases hlt2:j < d
     ·have hj1:(j:Int) < (d:Int):=by omega
      obtain ⟨D,hD⟩:∃ Z:ByteArray,Z=⟨(decT j).toArray⟩:=⟨_,rfl⟩
      obtain ⟨Z0,hZ0⟩:∃ Z:ByteArray,Z=⟨(needsT j).toArray⟩:=⟨_,rfl⟩
      obtain ⟨Z5,hZ5⟩:∃ Z:ByteArray,Z=⟨(needsT (j+1)).toArray⟩:=⟨_,rfl⟩
      have HDC:=zh (fun W=>show Calls prog 27 #[.int .i64 (j:Int)] W fun e w'=>e=.returned (.string D)/\Mod No W w' from by
       have h:=dec_any (j:Int) (by omega) W
       unfold strV at h
       rw [Int.toNat_natCast,<- hD] at h
       exact h)
      obtain ⟨Z1,Z2,⟨c1,c2,c3⟩,s1,s2,s3⟩:=need_cats j (by omega) Z0 D Z5 hZ0 hD hZ5
      have HZ5:=zh hZ5
      unfold strV
      rw [<- hZ0]
      clear hD hZ0 hZ5
      go_wp2_with fail
      with_reducible refine (HDC.out _).mono ?_
      rintro e w6 ⟨rfl,hm6⟩
      have HM6:=zh (HM.out.trans hm6)
      clear hm6 HDC
      go_wp2_with fail
      exact ⟨⟨j+1,by omega,by simp,by rw [<- HZ5.out],HM6.out⟩,by show d - ((j:Int)+1).toNat < d - (j:Int).toNat;omega⟩
     ·obtain rfl:j=d:=by omega
      have hj1:¬ ((j:Int) < (j:Int)):=by omega
      have HM6:=zh (HM5.out.trans HM.out)
      clear HM
      go_wp2_with fail
      clear hj1 hj hlt2
      with_reducible refine (HPX.out _ wr (Nat.le_trans (needsT_len (by omega)) (by omega)) (HST.out _ _ HG.out HM6.out)).mono ?_
      rintro e w7 ⟨⟨qa,qn,qc,rfl,hlr,hrow⟩,hmm⟩
      have HM7:=zh (HM6.out.trans hmm)
      have hix:=needs_ix hd24
      obtain ⟨ti,hti⟩:∃ t,t=jI (needsT j):=⟨_,rfl⟩
      obtain ⟨te,hte⟩:∃ t,t=jE (needsT j):=⟨_,rfl⟩
      obtain ⟨tl,htl⟩:∃ t,t=jR (needsT j):=⟨_,rfl⟩
      rw [<- hti,<- hte] at hix ⊢
      rw [<- htl] at hix hlr hrow
      have hcase:(20 < j/\te=65/\ti=22)\/(j<=20/\te=0/\∃ r,tl=[r]/\r.needs.length=j):=by
       by_cases h:20 < j
       ·exact .inl ⟨h,hix.1 h⟩
       ·exact .inr ⟨by omega,hix.2 (by omega)⟩
      clear hix hti hte htl hmm HM6
      rcases hcase with ⟨g1,rfl,rfl⟩ | ⟨g1,rfl,rw7,rfl,hrl⟩
      ·have i1:(20:Int) < (j:Int):=by omega
       clear hlr hrow
       go_wp2_with fail
       exact fin hR ⟨rfl,HM7.out⟩
      ·have i1:¬ ((20:Int) < (j:Int)):=by omega
       obtain ⟨bb,oo,rfl,na,nc,hcell⟩:=hrow rw7 rfl
       have hlr2:qn=1:=by rw [<- hlr];rfl
       rw [hrl] at hcell
       subst hlr2
       clear hlr hrow hrl
       go_wp2_with fail
       exact fin hR ⟨rfl,HM7.out⟩
   ·have i1:¬ ((200:Int) < (pn:Int)):=by omega
    have i2:(pn:Int)<=200:=by omega
    go_wp2_with fail
    clear d1 d2 t1 t2 g1 i1 i2 hm5 hm24 ha0 hb0 hr0
    go_loopw [7,13] (fun q7 q8 wr=>∃ k:Nat,k<=d/\q8=.int .i64 (k:Int)/\q7=strV (needsT k)/\Mod No w5 wr) (fun _ q _=>d - (intOf q).toNat)
    case atStart=>exact ⟨0,by omega,rfl,by rw [HY2.out],Mod.refl _ _⟩
    case round =>
     obtain ⟨j,hj,rfl,rfl,hm⟩:=hrel
     have HM:=zh hm
     clear hm
     have hj0:(0:Int)<=(j:Int):=Int.natCast_nonneg _
     by_cases hlt2:j < d
     ·have hj1:(j:Int) < (d:Int):=by omega
      obtain ⟨D,hD⟩:∃ Z:ByteArray,Z=⟨(decT j).toArray⟩:=⟨_,rfl⟩
      obtain ⟨Z0,hZ0⟩:∃ Z:ByteArray,Z=⟨(needsT j).toArray⟩:=⟨_,rfl⟩
      obtain ⟨Z5,hZ5⟩:∃ Z:ByteArray,Z=⟨(needsT (j+1)).toArray⟩:=⟨_,rfl⟩
      have HDC:=zh (fun W=>show Calls prog 27 #[.int .i64 (j:Int)] W fun e w'=>e=.returned (.string D)/\Mod No W w' from by
       have h:=dec_any (j:Int) (by omega) W
       unfold strV at h
       rw [Int.toNat_natCast,<- hD] at h
       exact h)
      obtain ⟨Z1,Z2,⟨c1,c2,c3⟩,s1,s2,s3⟩:=need_cats j (by omega) Z0 D Z5 hZ0 hD hZ5
      have HZ5:=zh hZ5
      unfold strV
      rw [<- hZ0]
      clear hD hZ0 hZ5
      go_wp2_with fail
      with_reducible refine (HDC.out _).mono ?_
      rintro e w6 ⟨rfl,hm6⟩
      have HM6:=zh (HM.out.trans hm6)
      clear hm6 HDC
      go_wp2_with fail
      exact ⟨⟨j+1,by omega,by simp,by rw [<- HZ5.out],HM6.out⟩,by show d - ((j:Int)+1).toNat < d - (j:Int).toNat;omega⟩
     ·obtain rfl:j=d:=by omega
      have hj1:¬ ((j:Int) < (j:Int)):=by omega
      have HM6:=zh (HM5.out.trans HM.out)
      clear HM
      go_wp2_with fail
      clear hj1 hj hlt2
      with_reducible refine (HPX.out _ wr (Nat.le_trans (needsT_len (by omega)) (by omega)) (HST.out _ _ HG.out HM6.out)).mono ?_
      rintro e w7 ⟨⟨qa,qn,qc,rfl,hlr,hrow⟩,hmm⟩
      have HM7:=zh (HM6.out.trans hmm)
      have hix:=needs_ix hd24
      obtain ⟨ti,hti⟩:∃ t,t=jI (needsT j):=⟨_,rfl⟩
      obtain ⟨te,hte⟩:∃ t,t=jE (needsT j):=⟨_,rfl⟩
      obtain ⟨tl,htl⟩:∃ t,t=jR (needsT j):=⟨_,rfl⟩
      rw [<- hti,<- hte] at hix ⊢
      rw [<- htl] at hix hlr hrow
      have hcase:(20 < j/\te=65/\ti=22)\/(j<=20/\te=0/\∃ r,tl=[r]/\r.needs.length=j):=by
       by_cases h:20 < j
       ·exact .inl ⟨h,hix.1 h⟩
       ·exact .inr ⟨by omega,hix.2 (by omega)⟩
      clear hix hti hte htl hmm HM6
      rcases hcase with ⟨g1,rfl,rfl⟩ | ⟨g1,rfl,rw7,rfl,hrl⟩
      ·have i1:(20:Int) < (j:Int):=by omega
       clear hlr hrow
       go_wp2_with fail
       exact fin hR ⟨rfl,HM7.out⟩
      ·have i1:¬ ((20:Int) < (j:Int)):=by omega
       obtain ⟨bb,oo,rfl,na,nc,hcell⟩:=hrow rw7 rfl
       have hlr2:qn=1:=by rw [<- hlr];rfl
       rw [hrl] at hcell
       subst hlr2
       clear hlr hrow hrl
       go_wp2_with fail
       exact fin hR ⟨rfl,HM7.out⟩
end Go.Proofs.YtgiigemfbebcgaaGreatDoor
