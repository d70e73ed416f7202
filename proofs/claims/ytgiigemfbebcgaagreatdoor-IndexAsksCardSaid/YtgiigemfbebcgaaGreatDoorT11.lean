/-
  Layers 0 to 14: helps of the laws of indexes. No statement is proved here; no condition.
-/
import Derived.Test.YtgiigemfbebcgaaGreatDoorT02
import Derived.Test.YtgiigemfbebcgaaGreatDoorT03
namespace Go.Proofs.YtgiigemfbebcgaaGreatDoor
open _root_.Go.Proofs.Tryz
open Go.RowKit
set_option maxRecDepth 100000 in
set_option maxHeartbeats 4000000 in
theorem digits_any (l:List UInt8) (hl:l.length<=1000000) (w:World):Calls prog 130 #[strV l] w fun e w'=>e=.returned (.bool (digitsB l))/\w'=w:=by
 refine calls_hide fun R hR=>?_
 have HX:=zh (run_at l)
 have HZ:=zh (str_len3 l)
 have hT:=str_list l
 unfold strV
 generalize (⟨l.toArray⟩:ByteArray)=Z at *
 have hZs:(Z.size:Int)=(l.length:Int):=by rw [HZ.out]
 go_enter func130,ntmps130
 go_wp2_with fail
 go_loopw [6] (fun q wr=>∃ k:Nat,k<=l.length/\q=.int .i64 k/\wr=w/\∀ i (hi:i < l.length),i < k->dig l[i]=true) (fun q _=>l.length - (intOf q).toNat)
 case atStart=>exact ⟨0,by omega,rfl,rfl,fun i _ hi=>absurd hi (by omega)⟩
 case round =>
  obtain ⟨k,hk,rfl,rfl,hall⟩:=hrel
  have hk0:(0:Int)<=(k:Int):=Int.natCast_nonneg _
  by_cases hlt:k < l.length
  ·have hk1:(k:Int) < (Z.size:Int):=by omega
   have hidx:=HX.out k hlt
   have HN:=zh (fun h=>all_take_succ (p:=dig) hlt hall h)
   have HF:=zh (fun h=>not_all (p:=dig) hlt h)
   have HD:=zh (show dig l[k]=(decide (48<=l[k].toNat) && decide (l[k].toNat<=57)) from rfl)
   generalize l[k].toNat=x at *
   clear hall
   by_cases h1:(x:Int) < 48
   ·go_wp2_with fail
    refine fin hR ⟨?_,rfl⟩
    show Ending.returned (.bool false)=_
    rw [show digitsB l=false by unfold digitsB;rw [HF.out (by rw [HD.out,decide_eq_false (by omega:¬ 48<=x)];rfl)];rfl]
   ·by_cases h2:(57:Int) < x
    ·go_wp2_with fail
     refine fin hR ⟨?_,rfl⟩
     show Ending.returned (.bool false)=_
     rw [show digitsB l=false by unfold digitsB;rw [HF.out (by rw [HD.out,decide_eq_false (by omega:¬ x<=57),Bool.and_false])];rfl]
    ·go_wp2_with fail
     exact ⟨⟨k+1,by omega,rfl,trivial,HN.out (by rw [HD.out,decide_eq_true (by omega:48<=x),decide_eq_true (by omega:x<=57)];rfl)⟩,by show l.length - ((k:Int)+1).toNat < l.length - (k:Int).toNat;omega⟩
  ·have HA:=zh (all_of (p:=dig) (by omega) hall)
   clear hall
   go_wp2_with fail
   refine fin hR ⟨?_,rfl⟩
   show Ending.returned (.bool (!l.isEmpty))=_
   unfold digitsB
   rw [HA.out,Bool.true_and]
theorem bytesLess_decT:∀ (x y:List UInt8),Op.bytesLess x y=decide (x < y)
 | [],[]=>by simp [Op.bytesLess]
 | _ :: _,[]=>by simp [Op.bytesLess]
 | [],_ :: _=>by simp [Op.bytesLess]
 | a :: x,b :: y=>by
  rw [Op.bytesLess,bytesLess_decT x y]
  simp only [List.cons_lt_cons_iff]
  by_cases h1:a < b <;> by_cases h2:a=b <;> by_cases h3:x < y <;> simp [h1,h2,h3]
theorem cmpL_lt {x y:List UInt8} (h:x < y):cmpL x y = -1:=if_pos h
theorem cmpL_gt {x y:List UInt8} (h:¬ x < y) (h2:x ≠ y):cmpL x y=1:=by
 unfold cmpL
 rw [if_neg h,if_pos (by
  rcases Std.lt_trichotomy x y with h3 | h3 | h3
  ·exact absurd h3 h
  ·exact absurd h3 h2
  ·exact h3)]
theorem cmpL_eq (x:List UInt8):cmpL x x=0:=by
 have h6:¬ x < x:=by simp
 unfold cmpL
 rw [if_neg h6,if_neg h6]
theorem isnanS_any (x:ByteArray) (w:World):Calls prog 115 #[.string x] w fun e w'=>e=.returned (.bool false)/\w'=w:=by
 refine calls_hide fun R hR=>?_
 go_enter func115,ntmps115
 go_wp2_with fail
 exact fin hR ⟨by simp,rfl⟩
theorem isnanN_any (x:Int) (w:World):Calls prog 129 #[.int .i64 x] w fun e w'=>e=.returned (.bool false)/\w'=w:=by
 refine calls_hide fun R hR=>?_
 go_enter func129,ntmps129
 go_wp2_with fail
 exact fin hR ⟨by simp,rfl⟩
set_option maxRecDepth 100000 in
theorem compareS_any (x y:List UInt8) (w:World):Calls prog 85 #[strV x,strV y] w fun e w'=>e=.returned (.int .i64 (cmpL x y))/\w'=w:=by
 refine calls_hide fun R hR=>?_
 unfold strV at *
 have HNX:=zh (isnanS_any ⟨x.toArray⟩)
 have HNY:=zh (isnanS_any ⟨y.toArray⟩)
 have h1:((⟨x.toArray⟩:ByteArray)).data.toList=x:=rfl
 have h2:((⟨y.toArray⟩:ByteArray)).data.toList=y:=rfl
 generalize (⟨x.toArray⟩:ByteArray)=X at *
 generalize (⟨y.toArray⟩:ByteArray)=Y at *
 go_enter func85,ntmps85
 go_wp2_with fail
 with_reducible refine (HNX.out _).mono ?_
 rintro e w1 ⟨rfl,hw1⟩
 subst hw1
 go_wp2_with fail
 with_reducible refine (HNY.out _).mono ?_
 rintro e w2 ⟨rfl,hw2⟩
 subst hw2
 go_wp2_with fail
 ·rename_i h3
  rw [ByteArray.toList_eq,ByteArray.toList_eq,h1,h2,bytesLess_decT] at h3
  exact fin hR ⟨by rw [cmpL_lt (by simpa using h3)];rfl,rfl⟩
 ·rename_i h4 K h5 h3
  clear h5 K
  rw [ByteArray.toList_eq,ByteArray.toList_eq,h1,h2,bytesLess_decT] at h4
  rw [ByteArray.toList_eq,ByteArray.toList_eq,h1,h2] at h3
  exact fin hR ⟨by rw [cmpL_gt (by simpa using h4) (by simpa using h3)];rfl,rfl⟩
 ·rename_i h4 h3
  rw [ByteArray.toList_eq,ByteArray.toList_eq,h1,h2] at h3
  have hxy:x=y:=by simpa using h3
  subst hxy
  exact fin hR ⟨by rw [cmpL_eq];rfl,rfl⟩
set_option maxRecDepth 100000 in
theorem compareN_any (x y:Int) (w:World):Calls prog 93 #[.int .i64 x,.int .i64 y] w fun e w'=>e=.returned (.int .i64 (cmpN x y))/\w'=w:=by
 refine calls_hide fun R hR=>?_
 have HNX:=zh (isnanN_any x)
 have HNY:=zh (isnanN_any y)
 go_enter func93,ntmps93
 go_wp2_with fail
 with_reducible refine (HNX.out _).mono ?_
 rintro e w1 ⟨rfl,hw1⟩
 subst hw1
 go_wp2_with fail
 with_reducible refine (HNY.out _).mono ?_
 rintro e w2 ⟨rfl,hw2⟩
 subst hw2
 go_wp2_with fail
 ·rename_i h3
  have h3':x < y:=by simpa using h3
  exact fin hR ⟨by rw [show cmpN x y = -1 from if_pos h3'];rfl,rfl⟩
 ·have h3':y < x:=by omega
  exact fin hR ⟨by rw [show cmpN x y=1 by unfold cmpN;rw [if_neg (by omega),if_pos h3']];rfl,rfl⟩
 ·exact fin hR ⟨by rw [show cmpN x y=0 by unfold cmpN;rw [if_neg (by omega),if_neg (by omega)]];rfl,rfl⟩
set_option maxRecDepth 100000 in
theorem refcmp_any (x y:Int) (w:World):Calls prog 65 #[.int .i64 x,.int .i64 y] w fun e w'=>e=.returned (.int .i64 (cmpN x y))/\w'=w:=by
 refine calls_hide fun R hR=>?_
 go_enter func65,ntmps65
 go_wp2_with fail
 ·rename_i h3
  have h3':x < y:=by simpa using h3
  exact fin hR ⟨by rw [show cmpN x y = -1 from if_pos h3'];rfl,rfl⟩
 ·have h3':y < x:=by omega
  exact fin hR ⟨by rw [show cmpN x y=1 by unfold cmpN;rw [if_neg (by omega),if_pos h3']];rfl,rfl⟩
 ·exact fin hR ⟨by rw [show cmpN x y=0 by unfold cmpN;rw [if_neg (by omega),if_neg (by omega)]];rfl,rfl⟩
set_option maxRecDepth 100000 in
theorem reftext_any (x y:List UInt8) (w:World):Calls prog 68 #[strV x,strV y] w fun e w'=>e=.returned (.int .i64 (cmpL x y))/\w'=w:=by
 refine calls_hide fun R hR=>?_
 unfold strV at *
 have h1:((⟨x.toArray⟩:ByteArray)).data.toList=x:=rfl
 have h2:((⟨y.toArray⟩:ByteArray)).data.toList=y:=rfl
 generalize (⟨x.toArray⟩:ByteArray)=X at *
 generalize (⟨y.toArray⟩:ByteArray)=Y at *
 go_enter func68,ntmps68
 go_wp2_with fail
 ·rename_i h3
  rw [ByteArray.toList_eq,ByteArray.toList_eq,h1,h2,bytesLess_decT] at h3
  exact fin hR ⟨by rw [cmpL_lt (by simpa using h3)];rfl,rfl⟩
 ·rename_i K h5 h4 h3
  clear h5 K
  rw [ByteArray.toList_eq,ByteArray.toList_eq,h1,h2,bytesLess_decT] at h4
  rw [ByteArray.toList_eq,ByteArray.toList_eq,h1,h2] at h3
  exact fin hR ⟨by rw [cmpL_gt (by simpa using h4) (by simpa using h3)];rfl,rfl⟩
 ·rename_i h4 h3
  rw [ByteArray.toList_eq,ByteArray.toList_eq,h1,h2] at h3
  have hxy:x=y:=by simpa using h3
  subst hxy
  exact fin hR ⟨by rw [cmpL_eq];rfl,rfl⟩
theorem oneif_any (b:Bool) (w:World):Calls prog 66 #[.bool b] w fun e w'=>e=.returned (.int .i64 (if b then 1 else 0))/\w'=w:=by
 refine calls_hide fun R hR=>?_
 go_enter func66,ntmps66
 rcases b with _ | _
 ·go_wp2_with fail
  exact fin hR ⟨rfl,rfl⟩
 ·go_wp2_with fail
  exact fin hR ⟨rfl,rfl⟩
set_option maxRecDepth 100000 in
set_option maxHeartbeats 4000000 in
theorem refdigits_any (l:List UInt8) (hl:l.length<=1000000) (w:World):Calls prog 67 #[strV l] w fun e w'=>e=.returned (.bool (digitsB l))/\w'=w:=by
 refine calls_hide fun R hR=>?_
 have HX:=zh (run_at l)
 have HZ:=zh (str_len3 l)
 have hT:=str_list l
 unfold strV
 generalize (⟨l.toArray⟩:ByteArray)=Z at *
 have hZs:(Z.size:Int)=(l.length:Int):=by rw [HZ.out]
 go_enter func67,ntmps67
 go_wp2_with fail
 go_loopw [3] (fun q wr=>∃ k:Nat,k<=l.length/\q=.int .i64 k/\wr=w/\∀ i (hi:i < l.length),i < k->dig l[i]=true) (fun q _=>l.length - (intOf q).toNat)
 case atStart=>exact ⟨0,by omega,rfl,rfl,fun i _ hi=>absurd hi (by omega)⟩
 case round =>
  obtain ⟨k,hk,rfl,rfl,hall⟩:=hrel
  have hk0:(0:Int)<=(k:Int):=Int.natCast_nonneg _
  by_cases hlt:k < l.length
  ·have hk1:(k:Int) < (Z.size:Int):=by omega
   have hidx:=HX.out k hlt
   have HN:=zh (fun h=>all_take_succ (p:=dig) hlt hall h)
   have HF:=zh (fun h=>not_all (p:=dig) hlt h)
   have HD:=zh (show dig l[k]=(decide (48<=l[k].toNat) && decide (l[k].toNat<=57)) from rfl)
   generalize l[k].toNat=x at *
   clear hall
   by_cases h1:(x:Int) < 48
   ·go_wp2_with fail
    refine fin hR ⟨?_,rfl⟩
    show Ending.returned (.bool false)=_
    rw [show digitsB l=false by unfold digitsB;rw [HF.out (by rw [HD.out,decide_eq_false (by omega:¬ 48<=x)];rfl)];rfl]
   ·by_cases h2:(57:Int) < x
    ·go_wp2_with fail
     refine fin hR ⟨?_,rfl⟩
     show Ending.returned (.bool false)=_
     rw [show digitsB l=false by unfold digitsB;rw [HF.out (by rw [HD.out,decide_eq_false (by omega:¬ x<=57),Bool.and_false])];rfl]
    ·go_wp2_with fail
     exact ⟨⟨k+1,by omega,rfl,trivial,HN.out (by rw [HD.out,decide_eq_true (by omega:48<=x),decide_eq_true (by omega:x<=57)];rfl)⟩,by show l.length - ((k:Int)+1).toNat < l.length - (k:Int).toNat;omega⟩
  ·have HA:=zh (all_of (p:=dig) (by omega) hall)
   clear hall
   go_wp2_with fail
   refine fin hR ⟨?_,rfl⟩
   show Ending.returned (.bool (!l.isEmpty))=_
   unfold digitsB
   rw [HA.out,Bool.true_and]
theorem nonempty_of_digits {l:List UInt8} (h:digitsB l=true):0 < l.length:=by
 unfold digitsB at h
 cases l
 ·simp at h
 ·simp
set_option maxRecDepth 100000 in
theorem plain_any (l:List UInt8) (hl:l.length<=1000000) (h0:0 < l.length) (w:World):Calls prog 171 #[strV l] w fun e w'=>e=.returned (.bool (plainB l))/\w'=w:=by
 refine calls_hide fun R hR=>?_
 have hidx:∀ W,(Instr.index 9 (.string ⟨l.toArray⟩) (.int .i64 0)).run prog W=.ok (.int .u8 (l[0].toNat:Int)) W:=run_at l 0 h0
 have HZ:=zh (str_len3 l)
 have hT:=str_list l
 have HP:=zh (show plainB l=(decide (l.length=1) || decide (l[0].toNat ≠ 48)) by
  unfold plainB
  congr 1
  rw [List.head?_eq_getElem?,List.getElem?_eq_getElem h0]
  simp [<- UInt8.toNat_inj])
 unfold strV
 generalize (⟨l.toArray⟩:ByteArray)=Z at *
 have hZs:(Z.size:Int)=(l.length:Int):=by rw [HZ.out]
 generalize l[0].toNat=x at *
 go_enter func171,ntmps171
 by_cases h1:(l.length:Int)=1
 ·go_wp2_with fail
  refine fin hR ⟨bool_ret ?_,rfl⟩
  rw [HP.out,decide_eq_true (by omega)]
  rfl
 ·go_wp2_with fail
  refine fin hR ⟨bool_ret ?_,rfl⟩
  rw [HP.out,Bool.eq_iff_iff]
  simp
  try omega
set_option maxRecDepth 100000 in
theorem sign_any (c:UInt8) (w:World):Calls prog 174 #[.int .u8 (c.toNat:Int)] w fun e w'=>e=.returned (.bool (signB c))/\w'=w:=by
 refine calls_hide fun R hR=>?_
 have HS:=zh (show signB c=((decide (48<=c.toNat) && decide (c.toNat<=57)) || (decide (97<=c.toNat) && decide (c.toNat<=122)) || (decide (65<=c.toNat) && decide (c.toNat<=90)) || decide (c.toNat=45)) from rfl)
 generalize c.toNat=x at *
 go_enter func174,ntmps174
 go_wp2_with fail
 all_goals
  refine fin hR ⟨bool_ret ?_,rfl⟩
  rw [HS.out,Bool.eq_iff_iff]
  simp
  omega
set_option maxRecDepth 100000 in
set_option maxHeartbeats 4000000 in
theorem mark_any (l:List UInt8) (hl:l.length<=1000000) (w:World):Calls prog 143 #[strV l] w fun e w'=>e=.returned (.bool (markB l))/\w'=w:=by
 refine calls_hide fun R hR=>?_
 have HX:=zh (run_at l)
 have HZ:=zh (str_len3 l)
 have hT:=str_list l
 have HDG:=zh (digits_any l hl)
 have HPL:=zh (plain_any l hl)
 unfold strV at *
 generalize (⟨l.toArray⟩:ByteArray)=Z at *
 have hZs:(Z.size:Int)=(l.length:Int):=by rw [HZ.out]
 have HMB:=zh (show markB l=(!l.isEmpty && decide (l.length<=16) && (!digitsB l || plainB l) && l.all signB) from rfl)
 have HDN:=zh (nonempty_of_digits (l:=l))
 go_enter func143,ntmps143
 by_cases h0:l=[]
 ·subst h0
  go_wp2_with fail
  refine fin hR ⟨bool_ret ?_,rfl⟩
  rfl
 have hne:l.isEmpty=false:=by simpa using h0
 by_cases h16:(16:Int) < (l.length:Int)
 ·go_wp2_with fail
  refine fin hR ⟨bool_ret ?_,rfl⟩
  rw [HMB.out,decide_eq_false (by omega:¬ l.length<=16),Bool.and_false]
  rfl
 go_wp2_with fail
 with_reducible refine (HDG.out _).mono ?_
 rintro e w ⟨rfl,rfl⟩
 have HMC:=zh (show (!digitsB l || plainB l)=true->markB l=l.all signB from fun h=>by
  rw [HMB.out,h,hne,decide_eq_true (by omega:l.length<=16)];rfl)
 have HMD:=zh (show (!digitsB l || plainB l)=false->markB l=false from fun h=>by
  rw [HMB.out,h,Bool.and_false];rfl)
 rcases hd:digitsB l with _ | _
 ·have HMN:=zh (HMC.out (by rw [hd];rfl))
  clear HMC HMD HMB
  go_wp2_with fail
  go_loopw [22] (fun q wr=>∃ k:Nat,k<=l.length/\q=.int .i64 k/\wr=w/\∀ i (hi:i < l.length),i < k->signB l[i]=true) (fun q _=>l.length - (intOf q).toNat)
  case atStart=>exact ⟨0,by omega,rfl,rfl,fun i _ hi=>absurd hi (by omega)⟩
  case round =>
   obtain ⟨k,hk,rfl,rfl,hall⟩:=hrel
   have hk0:(0:Int)<=(k:Int):=Int.natCast_nonneg _
   by_cases hlt:k < l.length
   ·have hk1:(k:Int) < (Z.size:Int):=by omega
    have hidx:=HX.out k hlt
    have HN:=zh (fun h=>all_take_succ (p:=signB) hlt hall h)
    have HF:=zh (fun h=>not_all (p:=signB) hlt h)
    have HSG:=zh (sign_any l[k])
    generalize l[k]=c at *
    clear hall
    go_wp2_with fail
    with_reducible refine (HSG.out _).mono ?_
    rintro e wr ⟨rfl,rfl⟩
    rcases hs:signB c with _ | _
    ·go_wp2_with fail
     refine fin hR ⟨bool_ret ?_,rfl⟩
     rw [HMN.out,HF.out hs]
    ·go_wp2_with fail
     exact ⟨⟨k+1,by omega,rfl,trivial,HN.out hs⟩,by show l.length - ((k:Int)+1).toNat < l.length - (k:Int).toNat;omega⟩
   ·have HA:=zh (all_of (p:=signB) (by omega) hall)
    clear hall
    go_wp2_with fail
    refine fin hR ⟨bool_ret ?_,rfl⟩
    rw [HMN.out,HA.out]
 ·go_wp2_with fail
  with_reducible refine (HPL.out (HDN.out hd) _).mono ?_
  rintro e w ⟨rfl,rfl⟩
  rcases hp:plainB l with _ | _
  ·go_wp2_with fail
   refine fin hR ⟨bool_ret ?_,rfl⟩
   rw [HMD.out (by rw [hd,hp];rfl)]
  ·have HMN:=zh (HMC.out (by rw [hd,hp];rfl))
   clear HMC HMD HMB
   go_wp2_with fail
   go_loopw [22] (fun q wr=>∃ k:Nat,k<=l.length/\q=.int .i64 k/\wr=w/\∀ i (hi:i < l.length),i < k->signB l[i]=true) (fun q _=>l.length - (intOf q).toNat)
   case atStart=>exact ⟨0,by omega,rfl,rfl,fun i _ hi=>absurd hi (by omega)⟩
   case round =>
    obtain ⟨k,hk,rfl,rfl,hall⟩:=hrel
    have hk0:(0:Int)<=(k:Int):=Int.natCast_nonneg _
    by_cases hlt:k < l.length
    ·have hk1:(k:Int) < (Z.size:Int):=by omega
     have hidx:=HX.out k hlt
     have HN:=zh (fun h=>all_take_succ (p:=signB) hlt hall h)
     have HF:=zh (fun h=>not_all (p:=signB) hlt h)
     have HSG:=zh (sign_any l[k])
     generalize l[k]=c at *
     clear hall
     go_wp2_with fail
     with_reducible refine (HSG.out _).mono ?_
     rintro e wr ⟨rfl,rfl⟩
     rcases hs:signB c with _ | _
     ·go_wp2_with fail
      refine fin hR ⟨bool_ret ?_,rfl⟩
      rw [HMN.out,HF.out hs]
     ·go_wp2_with fail
      exact ⟨⟨k+1,by omega,rfl,trivial,HN.out hs⟩,by show l.length - ((k:Int)+1).toNat < l.length - (k:Int).toNat;omega⟩
    ·have HA:=zh (all_of (p:=signB) (by omega) hall)
     clear hall
     go_wp2_with fail
     refine fin hR ⟨bool_ret ?_,rfl⟩
     rw [HMN.out,HA.out]
theorem ten10 {l:List UInt8} (h:l.all dig=true) (h10:l.length<=10) {k:Nat} (hk:k<=l.length):decV (l.take k) < 10000000000:=by
 have ha:(l.take k).all dig=true:=by
  rw [List.all_eq_true] at h ⊢
  exact fun c hc=>h c (List.mem_of_mem_take hc)
 have h1:=decV_lt _ (l.take k) rfl ha
 have h2:(l.take k).length<=10:=by rw [List.length_take];omega
 have h3:10 ^ (l.take k).length<=10 ^ 10:=Nat.pow_le_pow_right (by decide) h2
 omega
theorem numB_le {l:List UInt8} (hd:digitsB l=true) (h10:l.length<=10) (hp:1 < l.length->l.head? ≠ some 48):numB l=decide (decV l<=999999999):=by
 have ha:l.all dig=true:=by unfold digitsB at hd;rw [Bool.and_eq_true] at hd;exact hd.1
 have hpl:plainB l=true:=by
  unfold plainB
  have:=nonempty_of_digits hd
  rcases Nat.lt_or_ge 1 l.length with h | h
  ·rw [decide_eq_true (hp h),Bool.or_true]
  ·rw [decide_eq_true (by omega:l.length=1)];rfl
 unfold numB
 rw [hd,hpl,Bool.true_and,Bool.and_true]
 by_cases h9:l.length<=9
 ·have h1:=decV_lt _ l rfl ha
  have h3:10 ^ l.length<=10 ^ 9:=Nat.pow_le_pow_right (by decide) h9
  rw [decide_eq_true h9,decide_eq_true (by omega)]
 ·have hl:l.length=10:=by omega
  match l,hl with
  | c :: m,hl =>
   have hb:=dig_bounds (c:=c) (by rw [List.all_cons,Bool.and_eq_true] at ha;exact ha.1)
   have hc:49<=c.toNat:=by
    have h48:=hp (by omega)
    have:c.toNat ≠ 48:=fun e=>h48 (by simp [<- UInt8.toNat_inj,e])
    omega
   have h1:=decV_ge hc 9 m (by simpa using hl)
   rw [decide_eq_false h9,decide_eq_false (by omega)]
set_option maxRecDepth 100000 in
set_option maxHeartbeats 4000000 in
theorem refnumber_any (l:List UInt8) (hl:l.length<=1000000) (w:World):Calls prog 61 #[strV l,.int .i64 999999999] w fun e w'=>(∃ n:Int,e=.returned (.tuple #[.int .i64 n,.bool (numB l)])/\(numB l=true->n=(decV l:Int)))/\w'=w:=by
 refine calls_hide fun R hR=>?_
 have HX:=zh (run_at l)
 have hX0:0 < l.length->∀ W,(Instr.index 9 (.string ⟨l.toArray⟩) (.int .i64 0)).run prog W=.ok (.int .u8 ((l.getD 0 0).toNat:Int)) W:=fun h W=>by
  rw [List.getD_eq_getElem?_getD,List.getElem?_eq_getElem h];exact run_at l 0 h W
 have HX0:=zh hX0
 have HZ:=zh (str_len3 l)
 have hT:=str_list l
 have HDG:=zh (refdigits_any l hl)
 unfold strV at *
 generalize (⟨l.toArray⟩:ByteArray)=Z at *
 have hZs:(Z.size:Int)=(l.length:Int):=by rw [HZ.out]
 have HNB:=zh (show numB l=(digitsB l && decide (l.length<=9) && plainB l) from rfl)
 have HDN:=zh (nonempty_of_digits (l:=l))
 have HLE:=zh (numB_le (l:=l))
 clear hX0
 go_enter func61,ntmps61
 go_wp2_with fail
 with_reducible refine (HDG.out _).mono ?_
 rintro e w ⟨rfl,rfl⟩
 rcases hd:digitsB l with _ | _
 ·go_wp2_with fail
  have hb:numB l=false:=by rw [HNB.out,hd];rfl
  refine fin hR ⟨⟨0,by rw [hb];rfl,fun h=>by rw [hb] at h;cases h⟩,rfl⟩
 have h00:=HDN.out hd
 have hidx0:=HX0.out h00
 have HH:=zh (show l.head? = some (l.getD 0 0) by
  rw [List.head?_eq_getElem?,List.getD_eq_getElem?_getD,List.getElem?_eq_getElem h00];rfl)
 have hall:l.all dig=true:=by unfold digitsB at hd;rw [Bool.and_eq_true] at hd;exact hd.1
 have HT:=zh (fun h=>ten10 (k:=l.length) hall h)
 have HT2:=zh (fun h k hk=>ten10 (k:=k) hall h hk)
 have HT3:=zh (fun i (hi:i < l.length)=>decV_take hi)
 have HDB:=zh (fun i (hi:i < l.length)=>dig_bounds (List.all_eq_true.1 hall _ (List.getElem_mem hi)))
 have HML:=zh (show l.length<=10->(1 < l.length->l.head? ≠ some 48)->numB l=decide (decV l<=999999999) from fun a b=>HLE.out hd a b)
 have HP48:=zh (show 1 < l.length->(l.getD 0 0).toNat=48->numB l=false from fun a b=>by
  rw [HNB.out]
  have hq:plainB l=false:=by
   unfold plainB
   rw [decide_eq_false (by omega:¬ l.length=1),HH.out,Bool.false_or]
   refine decide_eq_false (fun hne=>hne ?_)
   rw [show l.getD 0 0=48 from UInt8.toNat_inj.1 b]
  rw [hq,Bool.and_false])
 have HP49:=zh (show (l.getD 0 0).toNat ≠ 48->l.head? ≠ some 48 from fun a b=>by
  rw [HH.out] at b
  exact a (by rw [Option.some.inj b];rfl))
 generalize (l.getD 0 0).toNat=c0 at *
 clear hall
 by_cases h1:(1:Int) < (l.length:Int)
 ·by_cases h48:(c0:Int)=48
  ·go_wp2_with fail
   have hb:=HP48.out (by omega) (by omega)
   refine fin hR ⟨⟨0,by rw [hb];rfl,fun h=>by rw [hb] at h;cases h⟩,rfl⟩
  ·have h48b:((c0:Int) == 48)=false:=by simpa using h48
   have HG:=zh (fun h10=>HML.out h10 (fun _=>HP49.out (by omega)))
   by_cases h10:(10:Int) < (l.length:Int)
   ·go_wp2_with fail
    have hb:numB l=false:=by rw [HNB.out,decide_eq_false (by omega:¬ l.length<=9),Bool.and_false];rfl
    refine fin hR ⟨⟨0,by rw [hb];rfl,fun h=>by rw [hb] at h;cases h⟩,rfl⟩
   go_wp2_with fail
   go_loopw [6,7] (fun n q wr=>∃ k:Nat,k<=l.length/\q=.int .i64 k/\wr=w/\n=.int .i64 (decV (l.take k):Int)) (fun _ q _=>l.length - (intOf q).toNat)
   case atStart=>exact ⟨0,by omega,rfl,rfl,rfl⟩
   case round =>
    obtain ⟨k,hk,rfl,rfl,rfl⟩:=hrel
    have hk0:(0:Int)<=(k:Int):=Int.natCast_nonneg _
    have hlt10:=HT2.out (by omega) k hk
    by_cases hlt:k < l.length
    ·have hk1:(k:Int) < (Z.size:Int):=by omega
     have hidx:=HX.out k hlt
     have hdb:=HDB.out k hlt
     have HN:=zh (HT3.out k hlt)
     generalize l[k].toNat=x at *
     generalize decV (l.take k)=y at *
     have y0:(0:Int)<=(y:Int):=Int.natCast_nonneg _
     have y1:(y:Int) < 10000000000:=by omega
     have x0:(48:Int)<=(x:Int):=by omega
     have x1:(x:Int)<=57:=by omega
     go_wp2_with fail
     exact ⟨⟨k+1,by omega,rfl,trivial,congrArg _ (by rw [HN.out];omega)⟩,by show l.length - ((k:Int)+1).toNat < l.length - (k:Int).toNat;omega⟩
    ·have hkl:k=l.length:=by omega
     subst hkl
     rw [List.take_length] at hlt10 ⊢
     have hnb:=HG.out (by omega)
     generalize decV l=y at *
     go_wp2_with fail
     refine fin hR ⟨⟨(y:Int),?_,fun _=>rfl⟩,rfl⟩
     rw [hnb]
     refine congrArg (fun b=>Ending.returned (.tuple #[.int .i64 (y:Int),.bool b])) ?_
     exact decide_eq_decide.2 (by omega)
 ·have HG:=zh (fun h10=>HML.out h10 (fun h=>absurd h (by omega)))
  by_cases h10:(10:Int) < (l.length:Int)
  ·omega
  go_wp2_with fail
  go_loopw [6,7] (fun n q wr=>∃ k:Nat,k<=l.length/\q=.int .i64 k/\wr=w/\n=.int .i64 (decV (l.take k):Int)) (fun _ q _=>l.length - (intOf q).toNat)
  case atStart=>exact ⟨0,by omega,rfl,rfl,rfl⟩
  case round =>
   obtain ⟨k,hk,rfl,rfl,rfl⟩:=hrel
   have hk0:(0:Int)<=(k:Int):=Int.natCast_nonneg _
   have hlt10:=HT2.out (by omega) k hk
   by_cases hlt:k < l.length
   ·have hk1:(k:Int) < (Z.size:Int):=by omega
    have hidx:=HX.out k hlt
    have hdb:=HDB.out k hlt
    have HN:=zh (HT3.out k hlt)
    generalize l[k].toNat=x at *
    generalize decV (l.take k)=y at *
    have y0:(0:Int)<=(y:Int):=Int.natCast_nonneg _
    have y1:(y:Int) < 10000000000:=by omega
    have x0:(48:Int)<=(x:Int):=by omega
    have x1:(x:Int)<=57:=by omega
    go_wp2_with fail
    exact ⟨⟨k+1,by omega,rfl,trivial,congrArg _ (by rw [HN.out];omega)⟩,by show l.length - ((k:Int)+1).toNat < l.length - (k:Int).toNat;omega⟩
   ·have hkl:k=l.length:=by omega
    subst hkl
    rw [List.take_length] at hlt10 ⊢
    have hnb:=HG.out (by omega)
    generalize decV l=y at *
    go_wp2_with fail
    refine fin hR ⟨⟨(y:Int),?_,fun _=>rfl⟩,rfl⟩
    rw [hnb]
    refine congrArg (fun b=>Ending.returned (.tuple #[.int .i64 (y:Int),.bool b])) ?_
    exact decide_eq_decide.2 (by omega)
theorem plain_refs {l:List UInt8} (h0:0 < l.length):plainB l=(decide (l=[48]) || decide ((l.getD 0 0).toNat ≠ 48)):=by
 unfold plainB
 match l,h0 with
 | [c],_=>simp [<- UInt8.toNat_inj]
 | c :: d :: l,_=>simp [<- UInt8.toNat_inj]
set_option maxRecDepth 100000 in
set_option maxHeartbeats 4000000 in
theorem refmark_any (l:List UInt8) (hl:l.length<=1000000) (w:World):Calls prog 60 #[strV l] w fun e w'=>e=.returned (.bool (markB l))/\w'=w:=by
 refine calls_hide fun R hR=>?_
 have HX:=zh (run_at l)
 have HX0:=zh (show 0 < l.length->∀ W,(Instr.index 9 (.string ⟨l.toArray⟩) (.int .i64 0)).run prog W=.ok (.int .u8 ((l.getD 0 0).toNat:Int)) W from fun h W=>by
  rw [List.getD_eq_getElem?_getD,List.getElem?_eq_getElem h];exact run_at l 0 h W)
 have HZ:=zh (str_len3 l)
 have hT:=str_list l
 have HDG:=zh (refdigits_any l hl)
 have HPR:=zh (plain_refs (l:=l))
 unfold strV at *
 generalize (⟨l.toArray⟩:ByteArray)=Z at *
 have hZs:(Z.size:Int)=(l.length:Int):=by rw [HZ.out]
 have HMB:=zh (show markB l=(!l.isEmpty && decide (l.length<=16) && (!digitsB l || plainB l) && l.all signB) from rfl)
 go_enter func60,ntmps60
 by_cases h0:l=[]
 ·subst h0
  have h00:(([]:List UInt8).length:Int) < 1:=by decide
  go_wp2_with fail
  refine fin hR ⟨bool_ret ?_,rfl⟩
  rfl
 have hne:l.isEmpty=false:=by simpa using h0
 have hn1:0 < l.length:=List.length_pos_iff.2 h0
 have hn2:¬ (l.length:Int) < 1:=by omega
 by_cases h16:(16:Int) < (l.length:Int)
 ·go_wp2_with fail
  refine fin hR ⟨bool_ret ?_,rfl⟩
  rw [HMB.out,decide_eq_false (by omega:¬ l.length<=16),Bool.and_false]
  rfl
 have HMC:=zh (show markB l=((!digitsB l || plainB l) && l.all signB) by
  rw [HMB.out,hne,decide_eq_true (by omega:l.length<=16)];rfl)
 clear HMB
 go_wp2_with fail
 go_loopw [3] (fun q wr=>∃ k:Nat,k<=l.length/\q=.int .i64 k/\wr=w/\∀ i (hi:i < l.length),i < k->signB l[i]=true) (fun q _=>l.length - (intOf q).toNat)
 case atStart=>exact ⟨0,by omega,rfl,rfl,fun i _ hi=>absurd hi (by omega)⟩
 case round =>
  obtain ⟨k,hk,rfl,rfl,hall⟩:=hrel
  have hk0:(0:Int)<=(k:Int):=Int.natCast_nonneg _
  by_cases hlt:k < l.length
  ·have hk1:(k:Int) < (Z.size:Int):=by omega
   have hidx:=HX.out k hlt
   have HN:=zh (fun h=>all_take_succ (p:=signB) hlt hall h)
   have HF:=zh (fun h=>not_all (p:=signB) hlt h)
   have HS:=zh (show signB l[k]=((decide (48<=l[k].toNat) && decide (l[k].toNat<=57)) || (decide (97<=l[k].toNat) && decide (l[k].toNat<=122)) || (decide (65<=l[k].toNat) && decide (l[k].toNat<=90)) || decide (l[k].toNat=45)) from rfl)
   generalize signB l[k]=sg at *
   generalize l[k].toNat=x at *
   clear hall
   go_wp2_with fail
   all_goals
    rename_i hlast
    try simp at hlast
    first
     | exact ⟨⟨k+1,by omega,rfl,trivial,HN.out (by rw [HS.out];simp;omega)⟩,by show l.length - ((k:Int)+1).toNat < l.length - (k:Int).toNat;omega⟩
     |(refine fin hR ⟨bool_ret ?_,rfl⟩
       rw [HMC.out,HF.out (by rw [HS.out,<- Bool.not_eq_true];simp;omega),Bool.and_false])
     |(rename_i h4 h3 h2
       simp at h4
       refine fin hR ⟨bool_ret ?_,rfl⟩
       rw [HMC.out,HF.out (by rw [HS.out,<- Bool.not_eq_true];simp;omega),Bool.and_false])
  ·have HA:=zh (all_of (p:=signB) (by omega) hall)
   clear hall
   go_wp2_with fail
   with_reducible refine (HDG.out _).mono ?_
   rintro e w ⟨rfl,rfl⟩
   have hidx0:=HX0.out hn1
   have HPQ:=zh (HPR.out hn1)
   generalize (l.getD 0 0).toNat=x at *
   generalize digitsB l=D at *
   rcases D with _ | _
   ·go_wp2_with fail
    refine fin hR ⟨bool_ret ?_,rfl⟩
    rw [HMC.out,HA.out]
    rfl
   ·by_cases h48:l=[48]
    ·have hb:(l == [48])=true:=by rw [h48];rfl
     go_wp2_with fail
     refine fin hR ⟨bool_ret ?_,rfl⟩
     rw [HMC.out,HPQ.out,HA.out,decide_eq_true h48]
     rfl
    ·have hb:(l == [48])=false:=by simpa using h48
     go_wp2_with fail
     refine fin hR ⟨bool_ret ?_,rfl⟩
     rw [HMC.out,HPQ.out,HA.out,decide_eq_false h48,Bool.eq_iff_iff]
     simp
     try omega
theorem dig_iff (c:UInt8):dig c=true ↔ 48<=c.toNat/\c.toNat<=57:=by
 unfold dig
 simp
theorem sizeL_no {l:List UInt8} (h:¬ (l ≠ []/\l.all dig=true/\l.length<=9)):sizeL l=none:=by
 unfold sizeL
 rw [if_neg]
 rintro ⟨h1,h2,-⟩
 refine h ⟨?_,?_,h2⟩
 ·intro e;subst e;cases h1
 ·unfold digitsB at h1;rw [Bool.and_eq_true] at h1;exact h1.1
theorem sizeL_yes {l:List UInt8} (h0:l ≠ []) (h1:l.all dig=true) (h2:l.length<=9):sizeL l=if decV l<=262144 then some (decV l:Int) else none:=by
 have hd:digitsB l=true:=by
  unfold digitsB
  rw [h1]
  cases l with
  | nil=>exact absurd rfl h0
  | cons a b=>rfl
 unfold sizeL
 by_cases h:decV l<=262144
 ·rw [if_pos ⟨hd,h2,h⟩,if_pos h]
 ·rw [if_neg (fun hh=>h hh.2.2),if_neg h]
theorem ten9 {l:List UInt8} (h:l.all dig=true) (h9:l.length<=9) {k:Nat} (hk:k<=l.length):decV (l.take k) < 1000000000:=by
 have ha:(l.take k).all dig=true:=by
  rw [List.all_eq_true] at h ⊢
  exact fun c hc=>h c (List.mem_of_mem_take hc)
 have h1:=decV_lt _ (l.take k) rfl ha
 have h2:(l.take k).length<=9:=by rw [List.length_take];omega
 have h3:10 ^ (l.take k).length<=10 ^ 9:=Nat.pow_le_pow_right (by decide) h2
 omega
def SizeOf (l:List UInt8) (e:Ending):Prop:=∃ n:Int,e=.returned (.tuple #[.int .i64 n,.bool (sizeL l).isSome])/\∀ m,sizeL l=some m->n=m
theorem size_no {l:List UInt8} (h:sizeL l=none) (n:Int):SizeOf l (.returned (.tuple #[.int .i64 n,.bool false])):=⟨n,by rw [h];rfl,fun m hm=>by rw [h] at hm;cases hm⟩
theorem size_end {l:List UInt8} (h:sizeL l=if decV l<=262144 then some (decV l:Int) else none):SizeOf l (.returned (.tuple #[.int .i64 (decV l:Int),.bool (decide ((decV l:Int)<=262144))])):=by
 by_cases hd:decV l<=262144
 ·rw [if_pos hd] at h
  exact ⟨_,by rw [h,decide_eq_true (by omega)];rfl,fun m hm=>by rw [h] at hm;cases hm;rfl⟩
 ·rw [if_neg hd] at h
  exact ⟨_,by rw [h,decide_eq_false (by omega)];rfl,fun m hm=>by rw [h] at hm;cases hm⟩
set_option maxRecDepth 100000 in
set_option maxHeartbeats 4000000 in
theorem refsize_any (l:List UInt8) (hl:l.length<=1000000) (w:World):Calls prog 47 #[strV l] w fun e w'=>SizeOf l e/\w'=w:=by
 refine calls_hide fun R hR=>?_
 have HX:=zh (run_at l)
 have HZ:=zh (str_len3 l)
 have HDG:=zh (refdigits_any l hl)
 have HDN:=zh (nonempty_of_digits (l:=l))
 unfold strV at *
 generalize (⟨l.toArray⟩:ByteArray)=Z at *
 have hZs:(Z.size:Int)=(l.length:Int):=by rw [HZ.out]
 go_enter func47,ntmps47
 go_wp2_with fail
 with_reducible refine (HDG.out _).mono ?_
 rintro e w ⟨rfl,rfl⟩
 rcases hd:digitsB l with _ | _
 ·have HN:=zh (show sizeL l=none from if_neg (by rw [hd];rintro ⟨h,-⟩;cases h))
  go_wp2_with fail
  exact fin hR ⟨size_no HN.out 0,rfl⟩
 ·have hall:l.all dig=true:=by unfold digitsB at hd;rw [Bool.and_eq_true] at hd;exact hd.1
  have hne:l ≠ []:=fun e=>by rw [e] at hd;cases hd
  by_cases h9:(9:Int) < (l.length:Int)
  ·have HN:=zh (show sizeL l=none from if_neg (by rintro ⟨-,h,-⟩;omega))
   go_wp2_with fail
   exact fin hR ⟨size_no HN.out 0,rfl⟩
  ·have h9':(l.length:Int)<=9:=by omega
   have HE:=zh (sizeL_yes hne hall (by omega))
   have HT2:=zh (fun k (hk:k<=l.length)=>ten9 (k:=k) hall (by omega) hk)
   have HT3:=zh (fun i (hi:i < l.length)=>decV_take hi)
   have HDB:=zh (fun i (hi:i < l.length)=>dig_bounds (List.all_eq_true.1 hall _ (List.getElem_mem hi)))
   clear hall hne hd h9
   go_wp2_with fail
   go_loopw [4,5] (fun n q wr=>∃ k:Nat,k<=l.length/\q=.int .i64 k/\wr=w/\n=.int .i64 (decV (l.take k):Int)) (fun _ q _=>l.length - (intOf q).toNat)
   case atStart=>exact ⟨0,by omega,rfl,rfl,rfl⟩
   case round =>
    obtain ⟨k,hk,rfl,rfl,rfl⟩:=hrel
    have hk0:(0:Int)<=(k:Int):=Int.natCast_nonneg _
    have hlt10:=HT2.out k hk
    by_cases hlt:k < l.length
    ·have hk1:(k:Int) < (Z.size:Int):=by omega
     have hidx:=HX.out k hlt
     have hdb:=HDB.out k hlt
     have HN:=zh (HT3.out k hlt)
     generalize l[k].toNat=x at *
     generalize decV (l.take k)=y at *
     have y0:(0:Int)<=(y:Int):=Int.natCast_nonneg _
     have y1:(y:Int) < 1000000000:=by omega
     have x0:(48:Int)<=(x:Int):=by omega
     have x1:(x:Int)<=57:=by omega
     go_wp2_with fail
     exact ⟨⟨k+1,by omega,rfl,trivial,congrArg _ (by rw [HN.out];omega)⟩,by show l.length - ((k:Int)+1).toNat < l.length - (k:Int).toNat;omega⟩
    ·have hkl:k=l.length:=by omega
     subst hkl
     have HE2:=zh (size_end HE.out)
     rw [List.take_length] at hlt10 ⊢
     generalize decV l=y at *
     go_wp2_with fail
     exact fin hR ⟨HE2.out,rfl⟩
set_option maxRecDepth 100000 in
set_option maxHeartbeats 4000000 in
theorem size_any (l:List UInt8) (hl:l.length<=1000000) (w:World):Calls prog 108 #[strV l] w fun e w'=>SizeOf l e/\w'=w:=by
 refine calls_hide fun R hR=>?_
 have HX:=zh (run_at l)
 have HZ:=zh (str_len3 l)
 have hT:=str_list l
 unfold strV at *
 generalize (⟨l.toArray⟩:ByteArray)=Z at *
 have hZs:(Z.size:Int)=(l.length:Int):=by rw [HZ.out]
 go_enter func108,ntmps108
 by_cases h0:l=[]
 ·have he:Z.toList=[]:=by rw [hT];exact h0
  have HN:=zh (show sizeL l=none from sizeL_no (fun h=>h.1 h0))
  clear hT HX
  go_wp2_with fail
  exact fin hR ⟨size_no HN.out 0,rfl⟩
 ·have he:Z.toList.isEmpty=false:=by rw [hT];simpa using h0
  clear hT
  by_cases h9:(9:Int) < (l.length:Int)
  ·have HN:=zh (show sizeL l=none from if_neg (by rintro ⟨-,h,-⟩;omega))
   go_wp2_with fail
   exact fin hR ⟨size_no HN.out 0,rfl⟩
  ·have h9':(l.length:Int)<=9:=by omega
   clear h9
   go_wp2_with fail
   clear he
   go_loopw [4,15] (fun n q wr=>∃ k:Nat,k<=l.length/\q=.int .i64 k/\wr=w/\n=.int .i64 (decV (l.take k):Int)/\(l.take k).all dig=true) (fun _ q _=>l.length - (intOf q).toNat)
   case atStart=>exact ⟨0,by omega,rfl,rfl,rfl,rfl⟩
   case round =>
    obtain ⟨k,hk,rfl,rfl,rfl,hall⟩:=hrel
    have hk0:(0:Int)<=(k:Int):=Int.natCast_nonneg _
    have hlt10:=ten9 (l:=l.take k) (k:=k) hall (by rw [List.length_take];omega) (by rw [List.length_take];omega)
    rw [List.take_take,Nat.min_self] at hlt10
    by_cases hlt:k < l.length
    ·have hk1:(k:Int) < (l.length:Int):=by omega
     have hidx:=HX.out k hlt
     have HN:=zh (decV_take hlt)
     have HDI:=zh (dig_iff l[k])
     have HTA:=zh (show dig l[k]=true->(l.take (k+1)).all dig=true from fun h=>by
      rw [List.take_succ_eq_append_getElem hlt,List.all_append,hall];simp [h])
     have HNO:=zh (show dig l[k]=false->sizeL l=none from fun h=>sizeL_no (fun hh=>by
      have:=List.all_eq_true.1 hh.2.1 _ (List.getElem_mem hlt)
      rw [h] at this;cases this))
     generalize l[k].toNat=x at *
     generalize decV (l.take k)=y at *
     have y0:(0:Int)<=(y:Int):=Int.natCast_nonneg _
     have y1:(y:Int) < 1000000000:=by omega
     clear hall hlt10
     by_cases hb:dig l[k]=true
     ·obtain ⟨b1,b2⟩:=HDI.out.1 hb
      have x0:¬ ((x:Int) < 48):=by omega
      have x1:¬ ((57:Int) < (x:Int)):=by omega
      have HT:=zh (HTA.out hb)
      clear b1 b2
      clear HTA HNO HDI hb
      go_wp2_with fail
      exact ⟨⟨k+1,by omega,rfl,trivial,congrArg _ (by rw [HN.out];omega),HT.out⟩,by show l.length - ((k:Int)+1).toNat < l.length - (k:Int).toNat;omega⟩
     ·have HZ2:=zh (HNO.out (by simpa using hb))
      have hnb:¬ (48<=x/\x<=57):=fun h=>hb (HDI.out.2 h)
      clear HTA HNO HDI hb
      by_cases hx48:(x:Int) < 48
      ·go_wp2_with fail
       exact fin hR ⟨size_no HZ2.out 0,rfl⟩
      ·have x1:(57:Int) < (x:Int):=by omega
       go_wp2_with fail
       exact fin hR ⟨size_no HZ2.out 0,rfl⟩
    ·have hkl:k=l.length:=by omega
     subst hkl
     rw [List.take_length] at hlt10 hall ⊢
     have HE2:=zh (size_end (sizeL_yes h0 hall (by omega)))
     have hk1:¬ ((l.length:Int) < (l.length:Int)):=by omega
     generalize decV l=y at *
     go_wp2_with fail
     exact fin hR ⟨HE2.out,rfl⟩
end Go.Proofs.YtgiigemfbebcgaaGreatDoor
