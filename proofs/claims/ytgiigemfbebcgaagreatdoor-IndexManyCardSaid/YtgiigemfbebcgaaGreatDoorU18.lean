/-
  Layers 0 to 14: helps of the laws of indexes. No statement is proved here; no condition.
-/
import Derived.Test.YtgiigemfbebcgaaGreatDoorU08
import Derived.Test.YtgiigemfbebcgaaGreatDoorU03
import Derived.Test.YtgiigemfbebcgaaGreatDoorU07
namespace Go.Proofs.YtgiigemfbebcgaaGreatDoor
open _root_.Go.Proofs.Tryz
open Go.RowKit
theorem ten10 {l:List UInt8} (h:l.all dig=true) (h10:l.length<=10) {k:Nat} (hk:k<=l.length):decV (l.take k) < 10000000000:=by
 have ha:(l.take k).all dig=true:=by
  rw [List.all_eq_true] at h ⊢
  exact fun c hc=>h c (List.mem_of_mem_take hc)
 have h1:=decV_lt _ (l.take k) rfl ha
 have h2:(l.take k).length<=10:=by rw [List.length_take];omega
 have h3:10 ^ (l.take k).length<=10 ^ 10:=Nat.pow_le_pow_right (by decide) h2
 omega
theorem numB_le {l:List UInt8} (hd:digitsB l=true) (h10:l.length<=10) (hp:1 < l.length->l.head? ≠ some 48):numB l=decide (decV l<=999999999):=by
 have ha:l.all dig=true:=by unfold digitsB at hd;rw [Bool.and_eq_true] at hd;exact hd.1
 have hpl:plainB l=true:=by
  unfold plainB
  have:=nonempty_of_digits hd
  rcases Nat.lt_or_ge 1 l.length with h | h
  ·rw [decide_eq_true (hp h),Bool.or_true]
  ·rw [decide_eq_true (by omega:l.length=1)];rfl
 unfold numB
 rw [hd,hpl,Bool.true_and,Bool.and_true]
 by_cases h9:l.length<=9
 ·have h1:=decV_lt _ l rfl ha
  have h3:10 ^ l.length<=10 ^ 9:=Nat.pow_le_pow_right (by decide) h9
  rw [decide_eq_true h9,decide_eq_true (by omega)]
 ·have hl:l.length=10:=by omega
  match l,hl with
  | c :: m,hl =>
   have hb:=dig_bounds (c:=c) (by rw [List.all_cons,Bool.and_eq_true] at ha;exact ha.1)
   have hc:49<=c.toNat:=by
    have h48:=hp (by omega)
    have:c.toNat ≠ 48:=fun e=>h48 (by simp [<- UInt8.toNat_inj,e])
    omega
   have h1:=decV_ge hc 9 m (by simpa using hl)
   rw [decide_eq_false h9,decide_eq_false (by omega)]
set_option maxRecDepth 100000 in
set_option maxHeartbeats 4000000 in
theorem refnumber_any (l:List UInt8) (hl:l.length<=1000000) (w:World):Calls prog 61 #[strV l,.int .i64 999999999] w fun e w'=>(∃ n:Int,e=.returned (.tuple #[.int .i64 n,.bool (numB l)])/\(numB l=true->n=(decV l:Int)))/\w'=w:=by
 refine calls_hide fun R hR=>?_
 have HX:=zh (run_at l)
 have hX0:0 < l.length->∀ W,(Instr.index 9 (.string ⟨l.toArray⟩) (.int .i64 0)).run prog W=.ok (.int .u8 ((l.getD 0 0).toNat:Int)) W:=fun h W=>by
  rw [List.getD_eq_getElem?_getD,List.getElem?_eq_getElem h];exact run_at l 0 h W
 have HX0:=zh hX0
 have HZ:=zh (str_len3 l)
 have hT:=str_list l
 have HDG:=zh (refdigits_any l hl)
 unfold strV at *
 generalize (⟨l.toArray⟩:ByteArray)=Z at *
 have hZs:(Z.size:Int)=(l.length:Int):=by rw [HZ.out]
 have HNB:=zh (show numB l=(digitsB l && decide (l.length<=9) && plainB l) from rfl)
 have HDN:=zh (nonempty_of_digits (l:=l))
 have HLE:=zh (numB_le (l:=l))
 clear hX0
 go_enter func61,ntmps61
 go_wp2_with fail
 with_reducible refine (HDG.out _).mono ?_
 rintro e w ⟨rfl,rfl⟩
 rcases hd:digitsB l with _ | _
 ·go_wp2_with fail
  have hb:numB l=false:=by rw [HNB.out,hd];rfl
  refine fin hR ⟨⟨0,by rw [hb];rfl,fun h=>by rw [hb] at h;cases h⟩,rfl⟩
 have h00:=HDN.out hd
 have hidx0:=HX0.out h00
 have HH:=zh (show l.head? = some (l.getD 0 0) by
  rw [List.head?_eq_getElem?,List.getD_eq_getElem?_getD,List.getElem?_eq_getElem h00];rfl)
 have hall:l.all dig=true:=by unfold digitsB at hd;rw [Bool.and_eq_true] at hd;exact hd.1
 have HT:=zh (fun h=>ten10 (k:=l.length) hall h)
 have HT2:=zh (fun h k hk=>ten10 (k:=k) hall h hk)
 have HT3:=zh (fun i (hi:i < l.length)=>decV_take hi)
 have HDB:=zh (fun i (hi:i < l.length)=>dig_bounds (List.all_eq_true.1 hall _ (List.getElem_mem hi)))
 have HML:=zh (show l.length<=10->(1 < l.length->l.head? ≠ some 48)->numB l=decide (decV l<=999999999) from fun a b=>HLE.out hd a b)
 have HP48:=zh (show 1 < l.length->(l.getD 0 0).toNat=48->numB l=false from fun a b=>by
  rw [HNB.out]
  have hq:plainB l=false:=by
   unfold plainB
   rw [decide_eq_false (by omega:¬ l.length=1),HH.out,Bool.false_or]
   refine decide_eq_false (fun hne=>hne ?_)
   rw [show l.getD 0 0=48 from UInt8.toNat_inj.1 b]
  rw [hq,Bool.and_false])
 have HP49:=zh (show (l.getD 0 0).toNat ≠ 48->l.head? ≠ some 48 from fun a b=>by
  rw [HH.out] at b
  exact a (by rw [Option.some.inj b];rfl))
 generalize (l.getD 0 0).toNat=c0 at *
 clear hall
 by_cases h1:(1:Int) < (l.length:Int)
 ·by_cases h48:(c0:Int)=48
  ·go_wp2_with fail
   have hb:=HP48.out (by omega) (by omega)
   refine fin hR ⟨⟨0,by rw [hb];rfl,fun h=>by rw [hb] at h;cases h⟩,rfl⟩
  ·have h48b:((c0:Int) == 48)=false:=by simpa using h48
   have HG:=zh (fun h10=>HML.out h10 (fun _=>HP49.out (by omega)))
   by_cases h10:(10:Int) < (l.length:Int)
   ·go_wp2_with fail
    have hb:numB l=false:=by rw [HNB.out,decide_eq_false (by omega:¬ l.length<=9),Bool.and_false];rfl
    refine fin hR ⟨⟨0,by rw [hb];rfl,fun h=>by rw [hb] at h;cases h⟩,rfl⟩
   go_wp2_with fail
   go_loopw [6,7] (fun n q wr=>∃ k:Nat,k<=l.length/\q=.int .i64 k/\wr=w/\n=.int .i64 (decV (l.take k):Int)) (fun _ q _=>l.length - (intOf q).toNat)
   case atStart=>exact ⟨0,by omega,rfl,rfl,rfl⟩
   case round =>
    obtain ⟨k,hk,rfl,rfl,rfl⟩:=hrel
    have hk0:(0:Int)<=(k:Int):=Int.natCast_nonneg _
    have hlt10:=HT2.out (by omega) k hk
    by_cases hlt:k < l.length
    ·have hk1:(k:Int) < (Z.size:Int):=by omega
     have hidx:=HX.out k hlt
     have hdb:=HDB.out k hlt
     have HN:=zh (HT3.out k hlt)
     generalize l[k].toNat=x at *
     generalize decV (l.take k)=y at *
     have y0:(0:Int)<=(y:Int):=Int.natCast_nonneg _
     have y1:(y:Int) < 10000000000:=by omega
     have x0:(48:Int)<=(x:Int):=by omega
     have x1:(x:Int)<=57:=by omega
     go_wp2_with fail
     exact ⟨⟨k+1,by omega,rfl,trivial,congrArg _ (by rw [HN.out];omega)⟩,by show l.length - ((k:Int)+1).toNat < l.length - (k:Int).toNat;omega⟩
    ·have hkl:k=l.length:=by omega
     subst hkl
     rw [List.take_length] at hlt10 ⊢
     have hnb:=HG.out (by omega)
     generalize decV l=y at *
     go_wp2_with fail
     refine fin hR ⟨⟨(y:Int),?_,fun _=>rfl⟩,rfl⟩
     rw [hnb]
     refine congrArg (fun b=>Ending.returned (.tuple #[.int .i64 (y:Int),.bool b])) ?_
     exact decide_eq_decide.2 (by omega)
 ·have HG:=zh (fun h10=>HML.out h10 (fun h=>absurd h (by omega)))
  by_cases h10:(10:Int) < (l.length:Int)
  ·omega
  go_wp2_with fail
  go_loopw [6,7] (fun n q wr=>∃ k:Nat,k<=l.length/\q=.int .i64 k/\wr=w/\n=.int .i64 (decV (l.take k):Int)) (fun _ q _=>l.length - (intOf q).toNat)
  case atStart=>exact ⟨0,by omega,rfl,rfl,rfl⟩
  case round =>
   obtain ⟨k,hk,rfl,rfl,rfl⟩:=hrel
   have hk0:(0:Int)<=(k:Int):=Int.natCast_nonneg _
   have hlt10:=HT2.out (by omega) k hk
   by_cases hlt:k < l.length
   ·have hk1:(k:Int) < (Z.size:Int):=by omega
    have hidx:=HX.out k hlt
    have hdb:=HDB.out k hlt
    have HN:=zh (HT3.out k hlt)
    generalize l[k].toNat=x at *
    generalize decV (l.take k)=y at *
    have y0:(0:Int)<=(y:Int):=Int.natCast_nonneg _
    have y1:(y:Int) < 10000000000:=by omega
    have x0:(48:Int)<=(x:Int):=by omega
    have x1:(x:Int)<=57:=by omega
    go_wp2_with fail
    exact ⟨⟨k+1,by omega,rfl,trivial,congrArg _ (by rw [HN.out];omega)⟩,by show l.length - ((k:Int)+1).toNat < l.length - (k:Int).toNat;omega⟩
   ·have hkl:k=l.length:=by omega
    subst hkl
    rw [List.take_length] at hlt10 ⊢
    have hnb:=HG.out (by omega)
    generalize decV l=y at *
    go_wp2_with fail
    refine fin hR ⟨⟨(y:Int),?_,fun _=>rfl⟩,rfl⟩
    rw [hnb]
    refine congrArg (fun b=>Ending.returned (.tuple #[.int .i64 (y:Int),.bool b])) ?_
    exact decide_eq_decide.2 (by omega)
theorem plain_refs {l:List UInt8} (h0:0 < l.length):plainB l=(decide (l=[48]) || decide ((l.getD 0 0).toNat ≠ 48)):=by
 unfold plainB
 match l,h0 with
 | [c],_=>simp [<- UInt8.toNat_inj]
 | c :: d :: l,_=>simp [<- UInt8.toNat_inj]
set_option maxRecDepth 100000 in
set_option maxHeartbeats 4000000 in
theorem refmark_any (l:List UInt8) (hl:l.length<=1000000) (w:World):Calls prog 60 #[strV l] w fun e w'=>e=.returned (.bool (markB l))/\w'=w:=by
 refine calls_hide fun R hR=>?_
 have HX:=zh (run_at l)
 have HX0:=zh (show 0 < l.length->∀ W,(Instr.index 9 (.string ⟨l.toArray⟩) (.int .i64 0)).run prog W=.ok (.int .u8 ((l.getD 0 0).toNat:Int)) W from fun h W=>by
  rw [List.getD_eq_getElem?_getD,List.getElem?_eq_getElem h];exact run_at l 0 h W)
 have HZ:=zh (str_len3 l)
 have hT:=str_list l
 have HDG:=zh (refdigits_any l hl)
 have HPR:=zh (plain_refs (l:=l))
 unfold strV at *
 generalize (⟨l.toArray⟩:ByteArray)=Z at *
 have hZs:(Z.size:Int)=(l.length:Int):=by rw [HZ.out]
 have HMB:=zh (show markB l=(!l.isEmpty && decide (l.length<=16) && (!digitsB l || plainB l) && l.all signB) from rfl)
 go_enter func60,ntmps60
 by_cases h0:l=[]
 ·subst h0
  have h00:(([]:List UInt8).length:Int) < 1:=by decide
  go_wp2_with fail
  refine fin hR ⟨bool_ret ?_,rfl⟩
  rfl
 have hne:l.isEmpty=false:=by simpa using h0
 have hn1:0 < l.length:=List.length_pos_iff.2 h0
 have hn2:¬ (l.length:Int) < 1:=by omega
 by_cases h16:(16:Int) < (l.length:Int)
 ·go_wp2_with fail
  refine fin hR ⟨bool_ret ?_,rfl⟩
  rw [HMB.out,decide_eq_false (by omega:¬ l.length<=16),Bool.and_false]
  rfl
 have HMC:=zh (show markB l=((!digitsB l || plainB l) && l.all signB) by
  rw [HMB.out,hne,decide_eq_true (by omega:l.length<=16)];rfl)
 clear HMB
 go_wp2_with fail
 go_loopw [3] (fun q wr=>∃ k:Nat,k<=l.length/\q=.int .i64 k/\wr=w/\∀ i (hi:i < l.length),i < k->signB l[i]=true) (fun q _=>l.length - (intOf q).toNat)
 case atStart=>exact ⟨0,by omega,rfl,rfl,fun i _ hi=>absurd hi (by omega)⟩
 case round =>
  obtain ⟨k,hk,rfl,rfl,hall⟩:=hrel
  have hk0:(0:Int)<=(k:Int):=Int.natCast_nonneg _
  by_cases hlt:k < l.length
  ·have hk1:(k:Int) < (Z.size:Int):=by omega
   have hidx:=HX.out k hlt
   have HN:=zh (fun h=>all_take_succ (p:=signB) hlt hall h)
   have HF:=zh (fun h=>not_all (p:=signB) hlt h)
   have HS:=zh (show signB l[k]=((decide (48<=l[k].toNat) && decide (l[k].toNat<=57)) || (decide (97<=l[k].toNat) && decide (l[k].toNat<=122)) || (decide (65<=l[k].toNat) && decide (l[k].toNat<=90)) || decide (l[k].toNat=45)) from rfl)
   generalize signB l[k]=sg at *
   generalize l[k].toNat=x at *
   clear hall
   go_wp2_with fail
   all_goals
    rename_i hlast
    try simp at hlast
    first
     | exact ⟨⟨k+1,by omega,rfl,trivial,HN.out (by rw [HS.out];simp;omega)⟩,by show l.length - ((k:Int)+1).toNat < l.length - (k:Int).toNat;omega⟩
     |(refine fin hR ⟨bool_ret ?_,rfl⟩
       rw [HMC.out,HF.out (by rw [HS.out,<- Bool.not_eq_true];simp;omega),Bool.and_false])
     |(rename_i h4 h3 h2
       simp at h4
       refine fin hR ⟨bool_ret ?_,rfl⟩
       rw [HMC.out,HF.out (by rw [HS.out,<- Bool.not_eq_true];simp;omega),Bool.and_false])
  ·have HA:=zh (all_of (p:=signB) (by omega) hall)
   clear hall
   go_wp2_with fail
   with_reducible refine (HDG.out _).mono ?_
   rintro e w ⟨rfl,rfl⟩
   have hidx0:=HX0.out hn1
   have HPQ:=zh (HPR.out hn1)
   generalize (l.getD 0 0).toNat=x at *
   generalize digitsB l=D at *
   rcases D with _ | _
   ·go_wp2_with fail
    refine fin hR ⟨bool_ret ?_,rfl⟩
    rw [HMC.out,HA.out]
    rfl
   ·by_cases h48:l=[48]
    ·have hb:(l == [48])=true:=by rw [h48];rfl
     go_wp2_with fail
     refine fin hR ⟨bool_ret ?_,rfl⟩
     rw [HMC.out,HPQ.out,HA.out,decide_eq_true h48]
     rfl
    ·have hb:(l == [48])=false:=by simpa using h48
     go_wp2_with fail
     refine fin hR ⟨bool_ret ?_,rfl⟩
     rw [HMC.out,HPQ.out,HA.out,decide_eq_false h48,Bool.eq_iff_iff]
     simp
     try omega
theorem dig_iff (c:UInt8):dig c=true ↔ 48<=c.toNat/\c.toNat<=57:=by
 unfold dig
 simp
theorem sizeL_no {l:List UInt8} (h:¬ (l ≠ []/\l.all dig=true/\l.length<=9)):sizeL l=none:=by
 unfold sizeL
 rw [if_neg]
 rintro ⟨h1,h2,-⟩
 refine h ⟨?_,?_,h2⟩
 ·intro e;subst e;cases h1
 ·unfold digitsB at h1;rw [Bool.and_eq_true] at h1;exact h1.1
theorem sizeL_yes {l:List UInt8} (h0:l ≠ []) (h1:l.all dig=true) (h2:l.length<=9):sizeL l=if decV l<=262144 then some (decV l:Int) else none:=by
 have hd:digitsB l=true:=by
  unfold digitsB
  rw [h1]
  cases l with
  | nil=>exact absurd rfl h0
  | cons a b=>rfl
 unfold sizeL
 by_cases h:decV l<=262144
 ·rw [if_pos ⟨hd,h2,h⟩,if_pos h]
 ·rw [if_neg (fun hh=>h hh.2.2),if_neg h]
theorem ten9 {l:List UInt8} (h:l.all dig=true) (h9:l.length<=9) {k:Nat} (hk:k<=l.length):decV (l.take k) < 1000000000:=by
 have ha:(l.take k).all dig=true:=by
  rw [List.all_eq_true] at h ⊢
  exact fun c hc=>h c (List.mem_of_mem_take hc)
 have h1:=decV_lt _ (l.take k) rfl ha
 have h2:(l.take k).length<=9:=by rw [List.length_take];omega
 have h3:10 ^ (l.take k).length<=10 ^ 9:=Nat.pow_le_pow_right (by decide) h2
 omega
def SizeOf (l:List UInt8) (e:Ending):Prop:=∃ n:Int,e=.returned (.tuple #[.int .i64 n,.bool (sizeL l).isSome])/\∀ m,sizeL l=some m->n=m
theorem size_no {l:List UInt8} (h:sizeL l=none) (n:Int):SizeOf l (.returned (.tuple #[.int .i64 n,.bool false])):=⟨n,by rw [h];rfl,fun m hm=>by rw [h] at hm;cases hm⟩
theorem size_end {l:List UInt8} (h:sizeL l=if decV l<=262144 then some (decV l:Int) else none):SizeOf l (.returned (.tuple #[.int .i64 (decV l:Int),.bool (decide ((decV l:Int)<=262144))])):=by
 by_cases hd:decV l<=262144
 ·rw [if_pos hd] at h
  exact ⟨_,by rw [h,decide_eq_true (by omega)];rfl,fun m hm=>by rw [h] at hm;cases hm;rfl⟩
 ·rw [if_neg hd] at h
  exact ⟨_,by rw [h,decide_eq_false (by omega)];rfl,fun m hm=>by rw [h] at hm;cases hm⟩
set_option maxRecDepth 100000 in
set_option maxHeartbeats 4000000 in
theorem refsize_any (l:List UInt8) (hl:l.length<=1000000) (w:World):Calls prog 47 #[strV l] w fun e w'=>SizeOf l e/\w'=w:=by
 refine calls_hide fun R hR=>?_
 have HX:=zh (run_at l)
 have HZ:=zh (str_len3 l)
 have HDG:=zh (refdigits_any l hl)
 have HDN:=zh (nonempty_of_digits (l:=l))
 unfold strV at *
 generalize (⟨l.toArray⟩:ByteArray)=Z at *
 have hZs:(Z.size:Int)=(l.length:Int):=by rw [HZ.out]
 go_enter func47,ntmps47
 go_wp2_with fail
 with_reducible refine (HDG.out _).mono ?_
 rintro e w ⟨rfl,rfl⟩
 rcases hd:digitsB l with _ | _
 ·have HN:=zh (show sizeL l=none from if_neg (by rw [hd];rintro ⟨h,-⟩;cases h))
  go_wp2_with fail
  exact fin hR ⟨size_no HN.out 0,rfl⟩
 ·have hall:l.all dig=true:=by unfold digitsB at hd;rw [Bool.and_eq_true] at hd;exact hd.1
  have hne:l ≠ []:=fun e=>by rw [e] at hd;cases hd
  by_cases h9:(9:Int) < (l.length:Int)
  ·have HN:=zh (show sizeL l=none from if_neg (by rintro ⟨-,h,-⟩;omega))
   go_wp2_with fail
   exact fin hR ⟨size_no HN.out 0,rfl⟩
  ·have h9':(l.length:Int)<=9:=by omega
   have HE:=zh (sizeL_yes hne hall (by omega))
   have HT2:=zh (fun k (hk:k<=l.length)=>ten9 (k:=k) hall (by omega) hk)
   have HT3:=zh (fun i (hi:i < l.length)=>decV_take hi)
   have HDB:=zh (fun i (hi:i < l.length)=>dig_bounds (List.all_eq_true.1 hall _ (List.getElem_mem hi)))
   clear hall hne hd h9
   go_wp2_with fail
   go_loopw [4,5] (fun n q wr=>∃ k:Nat,k<=l.length/\q=.int .i64 k/\wr=w/\n=.int .i64 (decV (l.take k):Int)) (fun _ q _=>l.length - (intOf q).toNat)
   case atStart=>exact ⟨0,by omega,rfl,rfl,rfl⟩
   case round =>
    obtain ⟨k,hk,rfl,rfl,rfl⟩:=hrel
    have hk0:(0:Int)<=(k:Int):=Int.natCast_nonneg _
    have hlt10:=HT2.out k hk
    by_cases hlt:k < l.length
    ·have hk1:(k:Int) < (Z.size:Int):=by omega
     have hidx:=HX.out k hlt
     have hdb:=HDB.out k hlt
     have HN:=zh (HT3.out k hlt)
     generalize l[k].toNat=x at *
     generalize decV (l.take k)=y at *
     have y0:(0:Int)<=(y:Int):=Int.natCast_nonneg _
     have y1:(y:Int) < 1000000000:=by omega
     have x0:(48:Int)<=(x:Int):=by omega
     have x1:(x:Int)<=57:=by omega
     go_wp2_with fail
     exact ⟨⟨k+1,by omega,rfl,trivial,congrArg _ (by rw [HN.out];omega)⟩,by show l.length - ((k:Int)+1).toNat < l.length - (k:Int).toNat;omega⟩
    ·have hkl:k=l.length:=by omega
     subst hkl
     have HE2:=zh (size_end HE.out)
     rw [List.take_length] at hlt10 ⊢
     generalize decV l=y at *
     go_wp2_with fail
     exact fin hR ⟨HE2.out,rfl⟩
set_option maxRecDepth 100000 in
set_option maxHeartbeats 4000000 in
theorem size_any (l:List UInt8) (hl:l.length<=1000000) (w:World):Calls prog 108 #[strV l] w fun e w'=>SizeOf l e/\w'=w:=by
 refine calls_hide fun R hR=>?_
 have HX:=zh (run_at l)
 have HZ:=zh (str_len3 l)
 have hT:=str_list l
 unfold strV at *
 generalize (⟨l.toArray⟩:ByteArray)=Z at *
 have hZs:(Z.size:Int)=(l.length:Int):=by rw [HZ.out]
 go_enter func108,ntmps108
 by_cases h0:l=[]
 ·have he:Z.toList=[]:=by rw [hT];exact h0
  have HN:=zh (show sizeL l=none from sizeL_no (fun h=>h.1 h0))
  clear hT HX
  go_wp2_with fail
  exact fin hR ⟨size_no HN.out 0,rfl⟩
 ·have he:Z.toList.isEmpty=false:=by rw [hT];simpa using h0
  clear hT
  by_cases h9:(9:Int) < (l.length:Int)
  ·have HN:=zh (show sizeL l=none from if_neg (by rintro ⟨-,h,-⟩;omega))
   go_wp2_with fail
   exact fin hR ⟨size_no HN.out 0,rfl⟩
  ·have h9':(l.length:Int)<=9:=by omega
   clear h9
   go_wp2_with fail
   clear he
   go_loopw [4,15] (fun n q wr=>∃ k:Nat,k<=l.length/\q=.int .i64 k/\wr=w/\n=.int .i64 (decV (l.take k):Int)/\(l.take k).all dig=true) (fun _ q _=>l.length - (intOf q).toNat)
   case atStart=>exact ⟨0,by omega,rfl,rfl,rfl,rfl⟩
   case round =>
    obtain ⟨k,hk,rfl,rfl,rfl,hall⟩:=hrel
    have hk0:(0:Int)<=(k:Int):=Int.natCast_nonneg _
    have hlt10:=ten9 (l:=l.take k) (k:=k) hall (by rw [List.length_take];omega) (by rw [List.length_take];omega)
    rw [List.take_take,Nat.min_self] at hlt10
    by_cases hlt:k < l.length
    ·have hk1:(k:Int) < (l.length:Int):=by omega
     have hidx:=HX.out k hlt
     have HN:=zh (decV_take hlt)
     have HDI:=zh (dig_iff l[k])
     have HTA:=zh (show dig l[k]=true->(l.take (k+1)).all dig=true from fun h=>by
      rw [List.take_succ_eq_append_getElem hlt,List.all_append,hall];simp [h])
     have HNO:=zh (show dig l[k]=false->sizeL l=none from fun h=>sizeL_no (fun hh=>by
      have:=List.all_eq_true.1 hh.2.1 _ (List.getElem_mem hlt)
      rw [h] at this;cases this))
     generalize l[k].toNat=x at *
     generalize decV (l.take k)=y at *
     have y0:(0:Int)<=(y:Int):=Int.natCast_nonneg _
     have y1:(y:Int) < 1000000000:=by omega
     clear hall hlt10
     by_cases hb:dig l[k]=true
     ·obtain ⟨b1,b2⟩:=HDI.out.1 hb
      have x0:¬ ((x:Int) < 48):=by omega
      have x1:¬ ((57:Int) < (x:Int)):=by omega
      have HT:=zh (HTA.out hb)
      clear b1 b2
      clear HTA HNO HDI hb
      go_wp2_with fail
      exact ⟨⟨k+1,by omega,rfl,trivial,congrArg _ (by rw [HN.out];omega),HT.out⟩,by show l.length - ((k:Int)+1).toNat < l.length - (k:Int).toNat;omega⟩
     ·have HZ2:=zh (HNO.out (by simpa using hb))
      have hnb:¬ (48<=x/\x<=57):=fun h=>hb (HDI.out.2 h)
      clear HTA HNO HDI hb
      by_cases hx48:(x:Int) < 48
      ·go_wp2_with fail
       exact fin hR ⟨size_no HZ2.out 0,rfl⟩
      ·have x1:(57:Int) < (x:Int):=by omega
       go_wp2_with fail
       exact fin hR ⟨size_no HZ2.out 0,rfl⟩
    ·have hkl:k=l.length:=by omega
     subst hkl
     rw [List.take_length] at hlt10 hall ⊢
     have HE2:=zh (size_end (sizeL_yes h0 hall (by omega)))
     have hk1:¬ ((l.length:Int) < (l.length:Int)):=by omega
     generalize decV l=y at *
     go_wp2_with fail
     exact fin hR ⟨HE2.out,rfl⟩
theorem nameB_ne {l:List UInt8} (h:l ≠ []):nameB l=(decide (l.length<=32) && smallB (l.getD 0 0) && l.all nameC):=by
 cases l with
 | nil=>exact absurd rfl h
 | cons c l=>rfl
set_option maxRecDepth 100000 in
theorem small_any (c:UInt8) (w:World):Calls prog 139 #[.int .u8 (c.toNat:Int)] w fun e w'=>e=.returned (.bool (smallB c))/\w'=w:=by
 refine calls_hide fun R hR=>?_
 have HS:=zh (show smallB c=(decide (97<=c.toNat) && decide (c.toNat<=122)) from rfl)
 generalize smallB c=s at *
 generalize c.toNat=x at *
 go_enter func139,ntmps139
 by_cases h97:(97:Int)<=(x:Int)
 ·go_wp2_with fail
  refine fin hR ⟨bool_ret ?_,rfl⟩
  rw [HS.out,decide_eq_true (by omega:97<=x)]
  simp
  omega
 ·go_wp2_with fail
  refine fin hR ⟨bool_ret ?_,rfl⟩
  rw [HS.out,decide_eq_false (by omega:¬ 97<=x)]
  simp
set_option maxRecDepth 100000 in
set_option maxHeartbeats 4000000 in
theorem name_any (l:List UInt8) (hl:l.length<=1000000) (w:World):Calls prog 105 #[strV l] w fun e w'=>e=.returned (.bool (nameB l))/\w'=w:=by
 refine calls_hide fun R hR=>?_
 have HX:=zh (run_at l)
 have HX0:=zh (show 0 < l.length->∀ W,(Instr.index 9 (.string ⟨l.toArray⟩) (.int .i64 0)).run prog W=.ok (.int .u8 ((l.getD 0 0).toNat:Int)) W from fun h W=>by
  rw [List.getD_eq_getElem?_getD,List.getElem?_eq_getElem h];exact run_at l 0 h W)
 have HZ:=zh (str_len3 l)
 have HSM:=zh small_any
 have hT:=str_list l
 unfold strV at *
 generalize (⟨l.toArray⟩:ByteArray)=Z at *
 have hZs:(Z.size:Int)=(l.length:Int):=by rw [HZ.out]
 go_enter func105,ntmps105
 by_cases h0:l=[]
 ·subst h0
  have h00:([]:List UInt8).isEmpty=true:=rfl
  go_wp2_with fail
  refine fin hR ⟨bool_ret ?_,rfl⟩
  rfl
 have HNB:=zh (nameB_ne h0)
 have hie:l.isEmpty=false:=by simpa using h0
 have hn1:0 < l.length:=List.length_pos_iff.2 h0
 by_cases h32:(32:Int) < (l.length:Int)
 ·go_wp2_with fail
  refine fin hR ⟨bool_ret ?_,rfl⟩
  rw [HNB.out,decide_eq_false (by omega:¬ l.length<=32)]
  rfl
 have hidx0:=HX0.out hn1
 have HNC:=zh (show nameB l=(smallB (l.getD 0 0) && l.all nameC) by
  rw [HNB.out,decide_eq_true (by omega:l.length<=32)];rfl)
 clear HNB HX0
 generalize l.getD 0 0=z0 at *
 have HS0:=zh (HSM.out z0)
 go_wp2_with fail
 with_reducible refine (HS0.out _).mono ?_
 rintro e wB ⟨rfl,rfl⟩
 rcases hs0:smallB z0 with _ | _
 ·go_wp2_with fail
  refine fin hR ⟨bool_ret ?_,rfl⟩
  rw [HNC.out,hs0]
  rfl
 have HND:=zh (show nameB l=l.all nameC by rw [HNC.out,hs0];rfl)
 clear HNC HS0 hs0
 go_wp2_with fail
 clear hidx0
 go_loopw [20] (fun q wr=>∃ k:Nat,k<=l.length/\q=.int .i64 k/\wr=wB/\∀ i (hi:i < l.length),i < k->nameC l[i]=true) (fun q _=>l.length - (intOf q).toNat)
 case atStart=>exact ⟨0,by omega,rfl,rfl,fun i _ hi=>absurd hi (by omega)⟩
 case round =>
  obtain ⟨k,hk,rfl,rfl,hall⟩:=hrel
  have hk0:(0:Int)<=(k:Int):=Int.natCast_nonneg _
  by_cases hlt:k < l.length
  ·have hk1:(k:Int) < (Z.size:Int):=by omega
   have hidx:=HX.out k hlt
   have HN:=zh (fun h=>all_take_succ (p:=nameC) hlt hall h)
   have HF:=zh (fun h=>not_all (p:=nameC) hlt h)
   have HS:=zh (show nameC l[k]=(smallB l[k] || (decide (48<=l[k].toNat) && decide (l[k].toNat<=57)) || decide (l[k].toNat=45)) from rfl)
   have HSK:=zh (HSM.out l[k])
   generalize nameC l[k]=sg at *
   generalize smallB l[k]=sk at *
   generalize l[k].toNat=x at *
   clear hall
   go_wp2_with fail
   with_reducible refine (HSK.out _).mono ?_
   rintro e w2 ⟨rfl,rfl⟩
   rcases sk with _ | _
   ·rcases (show (57 < x)\/(48<=x/\x<=57)\/x=45\/(x < 48/\x ≠ 45) by omega) with h | h | h | h
    ·have a3:(48:Int)<=(x:Int):=by omega
     have a4:¬ (x:Int)<=57:=by omega
     have a5:((x:Int) == 45)=false:=by rw [beq_eq_false_iff_ne];omega
     have HF2:=zh (HF.out (by rw [HS.out,<- Bool.not_eq_true];simp;omega))
     go_wp2_with fail
     refine fin hR ⟨bool_ret ?_,rfl⟩
     rw [HND.out,HF2.out]
    ·have a3:(48:Int)<=(x:Int):=by omega
     have a4:(x:Int)<=57:=by omega
     have hn:=HN.out (by rw [HS.out];simp;omega)
     have HN2:=zh hn
     clear hn
     go_wp2_with fail
     exact ⟨⟨k+1,by omega,rfl,trivial,HN2.out⟩,by show l.length - ((k:Int)+1).toNat < l.length - (k:Int).toNat;omega⟩
    ·have a3:¬ (48:Int)<=(x:Int):=by omega
     have a5:((x:Int) == 45)=true:=by simp;omega
     have hn:=HN.out (by rw [HS.out];simp;omega)
     have HN2:=zh hn
     clear hn
     go_wp2_with fail
     exact ⟨⟨k+1,by omega,rfl,trivial,HN2.out⟩,by show l.length - ((k:Int)+1).toNat < l.length - (k:Int).toNat;omega⟩
    ·have a3:¬ (48:Int)<=(x:Int):=by omega
     have a5:((x:Int) == 45)=false:=by rw [beq_eq_false_iff_ne];omega
     have HF2:=zh (HF.out (by rw [HS.out,<- Bool.not_eq_true];simp;omega))
     go_wp2_with fail
     refine fin hR ⟨bool_ret ?_,rfl⟩
     rw [HND.out,HF2.out]
   ·have hn:=HN.out (by rw [HS.out];rfl)
    have HN2:=zh hn
    clear hn
    go_wp2_with fail
    exact ⟨⟨k+1,by omega,rfl,trivial,HN2.out⟩,by show l.length - ((k:Int)+1).toNat < l.length - (k:Int).toNat;omega⟩
  ·have HA:=zh (all_of (p:=nameC) (by omega) hall)
   clear hall
   go_wp2_with fail
   refine fin hR ⟨bool_ret ?_,rfl⟩
   rw [HND.out,HA.out]
set_option maxRecDepth 100000 in
set_option maxHeartbeats 4000000 in
theorem indexbyte_any (n:Nat) (hn:n < 16) (w:World) :
  Calls prog 144 #[.string ⟨#[48,49,50,51,52,53,54,55,56,57,97,98,99,100,101,102]⟩,.int .u8 ((digit n).toNat:Int)] w fun e w'=>e=.returned (.int .i64 (n:Int))/\Mod No w w':=by
 refine calls_hide fun R hR=>?_
 have HF:=zh (show firstIdx ⟨#[48,49,50,51,52,53,54,55,56,57,97,98,99,100,101,102]⟩ ((digit n).toNat:Int).toNat.toUInt8=(n:Int) by
  match n,hn with
  | 0,_=>decide +kernel
  | 1,_=>decide +kernel
  | 2,_=>decide +kernel
  | 3,_=>decide +kernel
  | 4,_=>decide +kernel
  | 5,_=>decide +kernel
  | 6,_=>decide +kernel
  | 7,_=>decide +kernel
  | 8,_=>decide +kernel
  | 9,_=>decide +kernel
  | 10,_=>decide +kernel
  | 11,_=>decide +kernel
  | 12,_=>decide +kernel
  | 13,_=>decide +kernel
  | 14,_=>decide +kernel
  | 15,_=>decide +kernel
  | k+16,h=>exact absurd h (by omega))
 have HI:=zh (fun W=>run_indexByte_string (P:=prog) ⟨#[48,49,50,51,52,53,54,55,56,57,97,98,99,100,101,102]⟩ ((digit n).toNat:Int) W)
 rw [HF.out] at HI
 generalize ((digit n).toNat:Int)=d at *
 have HC:∀ W,Calls prog 167 #[.string ⟨#[48,49,50,51,52,53,54,55,56,57,97,98,99,100,101,102]⟩,.int .u8 d] W fun e w'=>e=.returned (.int .i64 (n:Int))/\w'=W:=fun W=>by
  clear hR R
  refine calls_hide fun R2 hR2=>?_
  have hi:Sem.run prog (callFunc 195 #[.string ⟨#[48,49,50,51,52,53,54,55,56,57,97,98,99,100,101,102]⟩,.int .u8 d]) W=.ok (.value (.int .i64 (n:Int))) W:=by
   rw [run_callFunc_extern func195 (by kernel_rfl) (by kernel_rfl) (by kernel_rfl) (e:=Extern.BytealgIndexByte.indexByte) (by kernel_rfl),HI.out W];rfl
  go_enter func167,ntmps167
  go_wp2_with fail
  exact fin hR2 ⟨rfl,rfl⟩
 clear HI
 go_enter func144,ntmps144
 go_wp2_with fail
 refine (HC w).mono ?_
 rintro e w1 ⟨rfl,rfl⟩
 go_wp2_with fail
 exact fin hR ⟨rfl,Mod.refl _ _⟩
set_option maxRecDepth 100000 in
theorem lit36 (t:Array Value) (h:t.size=36):∃ c:Nat->Value,t=#[c 0,c 1,c 2,c 3,c 4,c 5,c 6,c 7,c 8,c 9,c 10,c 11,c 12,c 13,c 14,c 15,c 16,c 17,c 18,c 19,c 20,c 21,c 22,c 23,c 24,c 25,c 26,c 27,c 28,c 29,c 30,c 31,c 32,c 33,c 34,c 35]/\∀ i,t.getD i undef=c i:=by
 refine ⟨fun i=>t.getD i undef,?_,fun _=>rfl⟩
 have h1:=arr_lits t
 rw [h] at h1
 exact h1.trans (by kernel_rfl)
def nib (S:List UInt8) (i:Nat):Nat:=if i % 2=0 then (S.getD (i / 2) 0).toNat / 16 else (S.getD (i / 2) 0).toNat % 16
def nibO (S:List UInt8) (i:Nat):Nat:=if i % 2=0 then 0 else (S.getD (i / 2) 0).toNat / 16
def keyN (S:List UInt8) (i:Nat):List UInt8:=(List.range 32).map fun j=>if 2*j+2<=i then S.getD j 0 else if 2*j+1=i then UInt8.ofNat ((S.getD j 0).toNat / 16) else 0
theorem nib_lt (S:List UInt8) (i:Nat):nib S i < 16:=by
 unfold nib
 have:=UInt8.toNat_lt (S.getD (i / 2) 0)
 split <;> omega
theorem nibO_lt (S:List UInt8) (i:Nat):nibO S i < 16:=by
 unfold nibO
 have:=UInt8.toNat_lt (S.getD (i / 2) 0)
 split <;> omega
theorem hexL_get:∀ (S:List UInt8) (i:Nat),i < 2*S.length->(hexL S)[i]? = some (digit (nib S i))
 | [],i,h=>absurd h (by simp)
 | c :: S,0,_=>rfl
 | c :: S,1,_=>rfl
 | c :: S,i+2,h=>by
  have ih:=hexL_get S i (by simp at h;omega)
  have e1:hexL (c :: S)=digit (c.toNat / 16) :: digit (c.toNat % 16) :: hexL S:=rfl
  have e2:nib (c :: S) (i+2)=nib S i:=by
   unfold nib
   rw [show (i+2) % 2=i % 2 by omega,show (i+2) / 2=i / 2+1 by omega]
   rfl
  rw [e1,e2]
  exact ih
theorem keyN_full {S:List UInt8} (hS:S.length=32):keyN S 64=S:=by
 apply List.ext_getElem?
 intro j
 unfold keyN
 rw [List.getElem?_map]
 by_cases hj:j < 32
 ·rw [List.getElem?_range hj,List.getElem?_eq_getElem (by omega)]
  simp only [Option.map_some]
  rw [if_pos (by omega),List.getD_eq_getElem?_getD,List.getElem?_eq_getElem (by omega)];rfl
 ·rw [List.getElem?_eq_none (by simp;omega),List.getElem?_eq_none (by omega)];rfl
theorem keyN_length (S:List UInt8) (i:Nat):(keyN S i).length=32:=by simp [keyN]
theorem keyN_get (S:List UInt8) {i:Nat} (hi:i < 64):(bv (keyN S i)).toArray[i / 2]? = some (.int .u8 (nibO S i:Int)):=by
 rw [List.getElem?_toArray]
 unfold keyN bv
 rw [List.getElem?_map,List.getElem?_map,List.getElem?_range (by omega)]
 simp only [Option.map_some]
 rw [if_neg (by omega)]
 unfold nibO
 have:=UInt8.toNat_lt (S.getD (i / 2) 0)
 by_cases h:i % 2=0
 ·rw [if_neg (by omega),if_pos h];rfl
 ·rw [if_pos (by omega),if_neg h,UInt8.toNat_ofNat']
  congr 2
  omega
theorem keyN_set (S:List UInt8) {i:Nat} (hi:i < 64):(bv (keyN S i)).toArray.setIfInBounds (i / 2) (.int .u8 ((nibO S i*16+nib S i:Nat):Int))=(bv (keyN S (i+1))).toArray:=by
 rw [List.setIfInBounds_toArray]
 congr 1
 apply List.ext_getElem?
 intro j
 have hlt:=UInt8.toNat_lt (S.getD (i / 2) 0)
 by_cases hj:i / 2=j
 ·subst hj
  rw [List.getElem?_set_self (by rw [bv_length,keyN_length];omega)]
  unfold keyN bv
  rw [List.getElem?_map,List.getElem?_map,List.getElem?_range (by omega)]
  simp only [Option.map_some]
  unfold nibO nib
  by_cases h:i % 2=0
  ·rw [if_pos h,if_pos h,if_neg (by omega),if_pos (by omega),UInt8.toNat_ofNat']
   congr 3
   omega
  ·rw [if_neg h,if_neg h,if_pos (by omega)]
   congr 3
   omega
 ·rw [List.getElem?_set_ne hj]
  unfold keyN bv
  rw [List.getElem?_map,List.getElem?_map,List.getElem?_map,List.getElem?_map]
  by_cases h32:j < 32
  ·rw [List.getElem?_range h32]
   simp only [Option.map_some]
   congr 3
   by_cases h2:2*j+2<=i
   ·rw [if_pos h2,if_pos (by omega)]
   ·rw [if_neg h2,if_neg (by omega),if_neg (by omega),if_neg (by omega)]
  ·rw [List.getElem?_eq_none (by simp;omega)];rfl
theorem or_nib (a b:Nat) (ha:a < 16) (hb:b < 16):bits .or .u8 ((a:Int)*16) (b:Int)=((a*16+b:Nat):Int):=by
 have h1:(BitVec.ofInt 8 ((a:Int)*16)).toNat=a*16:=by
  rw [show (a:Int)*16=((a*16:Nat):Int) by omega,BitVec.ofInt_natCast,BitVec.toNat_ofNat];exact Nat.mod_eq_of_lt (by omega)
 have h2:(BitVec.ofInt 8 (b:Int)).toNat=b:=by rw [BitVec.ofInt_natCast,BitVec.toNat_ofNat];exact Nat.mod_eq_of_lt (by omega)
 have e:2 ^ 4*a+b=2 ^ 4*a ||| b:=Nat.two_pow_add_eq_or_of_lt (by omega) a
 show IntKind.u8.wrap ((BitVec.ofInt 8 ((a:Int)*16) ||| BitVec.ofInt 8 (b:Int)).toNat:Int)=_
 rw [BitVec.toNat_or,h1,h2,show a*16=2 ^ 4*a by omega,<- e,IntKind.wrap_u8]
 omega
noncomputable def bodyQ:Code:=Tryz.f107.body.getD .skip
noncomputable def blkQ0:Code:=(blockAt 0 bodyQ).getD .skip
def LpQ (w0:World) (S:List UInt8) (Z:ByteArray) (v2:Value) (kb:Nat) (k:Nat) (a:Act) (w:World):Prop :=
 ∃ i,i+k=64/\Mod (fun p=>p=kb) w0 w/\w.heap[kb]? = some (.cells (bv (keyN S i)).toArray 43 (0,0))/\Fr 36 [(0,.string Z),(2,v2),(3,.bool false),(4,.pointer (some ⟨kb,0,none⟩)),(12,.int .i64 64),(13,.int .i64 (i:Int))] a
set_option maxRecDepth 100000 in
set_option maxHeartbeats 4000000 in
theorem parseloop_any (S:List UInt8) (Z:ByteArray) (v2:Value) (kb:Nat) (f:Act) (w:World)
  (hz:∀ i:Nat,i < 64->∀ W,(Instr.index 9 (.string Z) (.int .i64 (i:Int))).run prog W=.ok (.int .u8 ((digit (nib S i)).toNat:Int)) W)
  (hk:w.heap[kb]? = some (.cells (bv (keyN S 0)).toArray 43 (0,0)))
  (hF:Fr 36 [(0,.string Z),(2,v2),(3,.bool false),(4,.pointer (some ⟨kb,0,none⟩)),(12,.int .i64 64),(13,.int .i64 0)] f) :
  Code.wp prog blkQ0 (Exit.then (fun a' w'=>Fr 36 [(2,v2),(4,.pointer (some ⟨kb,0,none⟩))] a'/\w'.heap[kb]? = some (.cells (bv (keyN S 64)).toArray 43 (0,0))/\Mod (fun p=>p=kb) w w') Nope) f w:=by
 refine wp_part fun J K' hJ hK=>?_
 have H0:=zh (show LpQ w S Z v2 kb 64 f w from ⟨0,rfl,Mod.refl _ w,hk,hF⟩)
 have HJ:=zh hJ
 have HZ:=zh hz
 obtain ⟨w0,hw0⟩:∃ w0,w0=w:=⟨_,rfl⟩
 rw [<- hw0] at HJ H0
 clear hF hJ hk hz
 conv=>arg 2;whnf
 go_step
 refine wp_loop_ghost_k (LpQ w0 S Z v2 kb) 64 (by rw [hw0] at H0 ⊢;exact H0.out) ?_
 clear H0 hw0 f w
 intro k f w hI J2 K2 hJ2 hK2
 have HJ2:=zh hJ2
 obtain ⟨i,hik,hmod,hk,hF⟩:=hI
 have HM:=zh hmod
 have HK:=zh hk
 clear hJ2 hmod hk
 obtain ⟨ts,ds⟩:=f
 obtain ⟨hsz,hds,hs0,hs2,hs3,hs4,hs12,hs13,-⟩:=hF
 dsimp only at hsz hds hs0 hs2 hs3 hs4 hs12 hs13
 subst hds
 obtain ⟨c,rfl,hc⟩:=lit36 ts hsz
 rw [hc] at hs0
 rw [hc] at hs2
 rw [hc] at hs3
 rw [hc] at hs4
 rw [hc] at hs12
 rw [hc] at hs13
 simp only [hs0,hs2,hs3,hs4,hs12,hs13]
 clear hc hsz hs0 hs2 hs3 hs4 hs12 hs13
 have hi0:(0:Int)<=(i:Int):=Int.natCast_nonneg _
 by_cases hi:i < 64
 ·have hi64:(i:Int) < 64:=by omega
  have c0:=cell_ofA HK.out (keyN_get S hi)
  have f0:=frozen_of (i / 2) HK.out
  have HST:=zh (keyN_set S hi)
  have hidx:=HZ.out i hi
  have HOR:=zh (or_nib (nibO S i) (nib S i) (nibO_lt S i) (nib_lt S i))
  have HIB:=zh (indexbyte_any (nib S i) (nib_lt S i))
  have hb15:=nib_lt S i
  have ho15:=nibO_lt S i
  generalize nib S i=b at *
  generalize nibO S i=o at *
  generalize hdg:((digit b).toNat:Int)=dg at *
  obtain ⟨j,hj⟩:∃ j,j=i / 2:=⟨_,rfl⟩
  rw [<- hj] at c0 f0 HST
  have q1:(i:Int) / 2=(j:Int):=by omega
  have q1':Int.tdiv (i:Int) 2=(j:Int):=by rw [Int.tdiv_eq_ediv_of_nonneg hi0];exact q1
  have j0:(0:Int)<=(j:Int):=Int.natCast_nonneg _
  have j1:(j:Int) < 32:=by omega
  have b0:(0:Int)<=(b:Int):=Int.natCast_nonneg _
  have b1:(b:Int) < 16:=by omega
  have o0:(0:Int)<=(o:Int):=Int.natCast_nonneg _
  have o1:(o:Int) < 16:=by omega
  have C0:=zh (And.intro c0 f0)
  clear hj hdg c0 f0
  go_wp2_with fail
  with_reducible refine (HIB.out _).mono ?_
  rintro e w2 ⟨rfl,hm2⟩
  have c0:=hm2.cell C0.out.1 (fun f=>f)
  have HK2:=zh (hm2.keep HK.out (fun f=>f))
  have f0:=frozen_of j HK2.out
  have HM2:=zh (HM.out.then hm2 (fun i hi f=>f.elim))
  clear hm2 HIB
  go_wp2_with fail
  rw [HOR.out]
  exact Handed.intro (k - 1) (by omega) (HJ2.out _ _ _ ⟨i+1,by omega,HM2.out.setCell (fun _=>rfl) _,by rw [heap_setCell HK2.out,HST.out],rfl,rfl,rfl,rfl,rfl,rfl,rfl,by go_num,trivial⟩)
 ·have hi8:i=64:=by omega
  subst hi8
  go_wp2_with fail
  exact Met.intro (HJ.out _ _ ⟨⟨rfl,rfl,rfl,rfl,trivial⟩,HK.out,HM.out⟩)
theorem hexidx {S:List UInt8} (hS:S.length=32) (i:Nat) (hi:i < 64) (W:World):(Instr.index 9 (.string ⟨(hexL S).toArray⟩) (.int .i64 (i:Int))).run prog W=.ok (.int .u8 ((digit (nib S i)).toNat:Int)) W:=by
 have hl:(hexL S).length=64:=by rw [hexL_length,hS]
 have hsz:(⟨(hexL S).toArray⟩:ByteArray).size=64:=by rw [str_len3,hl]
 have hi2:(0:Int)<=(i:Int)/\(i:Int) < ((⟨(hexL S).toArray⟩:ByteArray).size:Int):=by rw [hsz];omega
 rw [run_index_string W 9 _ .i64 i underlying9,dif_pos hi2]
 have h1:=hexL_get S i (by omega)
 have h2:(⟨(hexL S).toArray⟩:ByteArray)[(i:Int).toNat]'(by rw [hsz];omega)=digit (nib S i):=by
  show (hexL S).toArray[i]'(by simp;omega)=_
  rw [List.getElem_toArray]
  rw [List.getElem?_eq_getElem (by omega)] at h1
  exact Option.some.inj h1
 rw [h2]
set_option maxRecDepth 100000 in
set_option maxHeartbeats 4000000 in
theorem parse_any (S:List UInt8) (hS:S.length=32) (w:World) :
  Calls prog 107 #[.string ⟨(hexL S).toArray⟩] w fun e w'=>e=.returned (.tuple #[keyV S,.bool true])/\Mod No w w':=by
 refine calls_hide fun R hR=>?_
 have hsz:(⟨(hexL S).toArray⟩:ByteArray).size=64:=by rw [str_len3,hexL_length,hS]
 have HX:=zh (hexidx hS)
 generalize (⟨(hexL S).toArray⟩:ByteArray)=Z at *
 go_enter func107,ntmps107
 go_upto_region 1 with fail
 obtain ⟨rb,hrb⟩:∃ g,g=w.heap.size:=⟨_,rfl⟩
 rw [<- hrb]
 generalize hw1:World.alloc w _=w1
 have HM1:=zh (show Mod No w w1 by rw [<- hw1];exact (Mod.refl No w).alloc _)
 have HR1:=zh (show w1.heap[rb]? = some (.cells (bv (keyN S 0)).toArray 43 (0,0)) by rw [<- hw1,hrb];exact heap_alloc_new w _)
 have HRB:=zh hrb
 clear hw1 hrb
 go_upto_region 2 with fail
 obtain ⟨kb,hkb⟩:∃ g,g=w1.heap.size:=⟨_,rfl⟩
 rw [<- hkb]
 generalize hw2:World.alloc w1 _=w2
 have HM2:=zh (show Mod No w1 w2 by rw [<- hw2];exact (Mod.refl No w1).alloc _)
 have HK2:=zh (show w2.heap[kb]? = some (.cells (bv (keyN S 0)).toArray 43 (0,0)) by rw [<- hw2,hkb];exact heap_alloc_new w1 _)
 have HKB:=zh hkb
 clear hw2 hkb
 go_upto_block 0 with fail
 rename_i K5 hK5
 refine wp_only (parseloop_any S Z _ kb _ w2 HX.out HK2.out ⟨rfl,rfl,rfl,rfl,rfl,rfl,rfl,rfl,trivial⟩) ?_
 rintro a3 w3 ⟨hF,hk3,hm3⟩
 have hr3:=hm3.keep (HM2.out.keep HR1.out (fun f=>f)) (fun e=>by have:=lt_of_heap HR1.out;have:=HKB.out;omega)
 have hmm:=HM1.out.then (HM2.out.then hm3 (S:=No) (fun i hi e=>absurd hi (by have:=HKB.out;omega))) (fun i hi f=>f)
 rw [keyN_full hS] at hk3
 refine hK5 _ _ ?_
 clear hm3 hK5 K5
 obtain ⟨ts,ds⟩:=a3
 obtain ⟨hsz,hds,hs2,hs4,-⟩:=hF
 dsimp only at hsz hds hs2 hs4
 subst hds
 obtain ⟨c,rfl,hc⟩:=lit36 ts hsz
 rw [hc] at hs2
 rw [hc] at hs4
 simp only [hs2,hs4]
 clear hc hsz hs2 hs4
 go_upto_region 12 with fail
 rename_i K7 hK7
 refine wp_region_lit ?_
 refine wpList_load_row rfl 43 _ rfl kb rfl 43 (bv S).toArray (0,0) _ hk3 underlying43 rfl (key_size hS) ?_
 refine wpList_store_row rfl 43 _ _ rfl rb (bv S).toArray rfl rfl 43 _ hr3 (key_size hS) (by simp [keyN_length,hS]) (by simp [bv,Value.oneCell']) ?_
 go_wp2_with fail
 have hr4:(w3.setRow rb (bv S).toArray).heap[rb]? = some (.cells (bv S).toArray 43 (0,0)):=setRow_heap _ _ _ _ _ _ hr3
 have hmm4:=zh (hmm.setRow (fun h=>by have:=HRB.out;omega) (bv S).toArray:Mod No w (w3.setRow rb (bv S).toArray))
 generalize w3.setRow rb (bv S).toArray=w4 at *
 have hl:=run_loadVar_row (P:=prog) w4 rb 43 43 (bv S).toArray (0,0) _ hr4 underlying43 rfl (key_size hS)
 exact bodyPost_ret (v:=.tuple #[keyV S,.bool true]) (by simp [results,results107,asAddr,hl]) rfl (fin hR ⟨rfl,hmm4.out⟩)
end Go.Proofs.YtgiigemfbebcgaaGreatDoor
