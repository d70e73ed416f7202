/-
  Layers 0 to 14: helps of the laws of indexes. No statement is proved here; no condition.
-/
import Derived.Test.YticfcmdjplmaeaaGreatDoorX00
import Derived.Test.YticfcmdjplmaeaaGreatDoorX01
import Derived.Test.YticfcmdjplmaeaaGreatDoorX02
import Derived.Great.BuildSlice
import Derived.Great.FillDense
set_option maxRecDepth 100000
set_option maxHeartbeats 64000000
namespace Go.Proofs.YticfcmdjplmaeaaGreatDoor
open _root_.Go.Proofs.Tryz
open Go.RowKit
theorem split_step_none {c:UInt8} {l:List UInt8} {fr:Nat} (h:∀ i (hi:i < l.length),fr<=i->i < l.length->l[i] ≠ c):splitC c (l.drop fr)=[l.drop fr]:=splitC_none fun d hd=>by
 obtain ⟨i,hi,rfl⟩:=List.getElem_of_mem hd;rw [List.getElem_drop];rw [List.length_drop] at hi;exact h _ (by omega) (by omega) (by omega)
theorem split_step_hit {c:UInt8} {l:List UInt8} {fr k:Nat} (hk:k < l.length) (hfr:fr<=k) (h:∀ i (hi:i < l.length),fr<=i->i < k->l[i] ≠ c) (hc:l[k]=c):splitC c (l.drop fr)=(l.drop fr).take (k - fr) :: splitC c (l.drop (k+1)):=by
 have e:l.drop fr=(l.drop fr).take (k - fr)++c :: l.drop (k+1):=by
  conv=>lhs;rw [<- List.take_append_drop (k - fr) (l.drop fr)]
  rw [List.drop_drop,show fr+(k - fr)=k by omega,List.drop_eq_getElem_cons hk,hc]
 conv=>lhs;rw [e]
 refine splitC_hit _ fun d hd=>?_
 obtain ⟨i,hi,rfl⟩:=List.getElem_of_mem hd;rw [List.length_take,List.length_drop] at hi;rw [List.getElem_take,List.getElem_drop];exact h _ (by omega) (by omega) (by omega)
theorem info_str:(prog.info? 9).map (fun i=>(i.zero,i.size,i.bytes))=some (some (.string ⟨#[]⟩),1,16):=by kernel_rfl
theorem refsplit_any (c:UInt8) (l:List UInt8) (hl:l.length<=1000000) (w:World) :
  Calls prog 34 #[strV l,.int .u8 (c.toNat:Int)] w fun e w'=>∃ v,e=.returned v/\w'.ownsRow w.heap.size 9 1 v (splitC c l).length (strs (splitC c l))/\Mod No w w':=by
 refine calls_hide fun R hR=>?_
 obtain ⟨i0,hi0,hz0,hz1,hz2⟩:=info_parts info_str;have HX:=zh (run_at l);have HEX:=zh (str_part l);have HZ:=zh (str_len3 l);have hT:=str_list l;unfold strV at *;generalize (⟨l.toArray⟩:ByteArray)=Z at *;have hZs:(Z.size:Int)=(l.length:Int):=by rw [HZ.out]
 have HCT:=zh (fun d:UInt8=>@UInt8.toNat_inj d c);have hlen:=splitC_length_le c l;obtain ⟨x,hx⟩:∃ x:Nat,x=c.toNat:=⟨_,rfl⟩
 rw [<- hx];have HXC:=zh hx;clear hx;go_enter func34,ntmps34
 go_wp2_with fail
 go_loopw [5,6,7] (fun o f q wr=>∃ (k fr:Nat) (outs:List (List UInt8)),k<=l.length+1/\fr<=k/\q=.int .i64 k/\f=.int .i64 fr/\wr.ownsRow w.heap.size 9 1 o outs.length (strs outs)/\Mod No w wr/\outs.length<=k ∧
  ((k<=l.length/\(∀ i (hi:i < l.length),fr<=i->i < k->l[i] ≠ c)/\splitC c l=outs++splitC c (l.drop fr))\/(k=l.length+1/\splitC c l=outs))) (fun _ _ q _=>l.length+1 - (intOf q).toNat)
 case atStart=>exact ⟨0,0,[],by omega,by omega,rfl,rfl,⟨rfl,.inl ⟨rfl,rfl⟩⟩,Mod.refl _ _,by simp,.inl ⟨by omega,fun i _ _ h=>absurd h (by omega),rfl⟩⟩
 case round =>
  obtain ⟨k,fr,outs,hk,hfr,rfl,rfl,hown,hmod,hol,hcase⟩:=hrel;have hk0:(0:Int)<=(k:Int):=Int.natCast_nonneg _;have hf0:(0:Int)<=(fr:Int):=Int.natCast_nonneg _;have hfk:(fr:Int)<=(k:Int):=by omega
  have HO:=zh hown;have HM:=zh hmod;have hbase:=hmod.size;clear hown hmod;by_cases hlt:k<=l.length
  ·obtain ⟨hno,hsp⟩:(∀ i (hi:i < l.length),fr<=i->i < k->l[i] ≠ c)/\splitC c l=outs++splitC c (l.drop fr):=by
    rcases hcase with ⟨_,h⟩ | ⟨h,_⟩
    ·exact h
    ·omega
   clear hcase;have hk1:(k:Int)<=(Z.size:Int):=by omega
   have HNO:=zh hno;have HSP:=zh hsp;clear hno hsp;by_cases hkl:k=l.length
   ·have HST:=zh (split_step_none (c:=c) (l:=l) (fr:=fr) (fun i hi h1 h2=>HNO.out i hi h1 (by omega)));subst hkl;have hext:=HEX.out fr l.length;have HPC:=zh (show (l.drop fr).take (l.length - fr)=l.drop fr from List.take_of_length_le (by rw [List.length_drop];omega));generalize (l.drop fr).take (l.length - fr)=pc at *;clear HNO;have HMA:=zh ((Mod.refl No wr).alloc (.cells #[.string ⟨pc.toArray⟩] 9));have HOA:=zh (own_keepM HO.out HMA.out (fun _ _ f=>f));have HSA:=zh (show Sl (wr.alloc (.cells #[.string ⟨pc.toArray⟩] 9)) No 9 (.slice (some ⟨wr.heap.size,0,none⟩) 1 1) 1 [.string ⟨pc.toArray⟩] from .inr ⟨wr.heap.size,0,1,_,(0,0),rfl,Nat.le_refl _,by decide,fun f=>f,heap_alloc_new wr _,by simp,fun i hi=>by
     have h0:i=0:=by simp at hi;exact hi
     subst h0;rfl⟩)
    have hbA:w.heap.size<=(wr.alloc (.cells #[.string ⟨pc.toArray⟩] 9)).heap.size:=Nat.le_trans hbase HMA.out.size;go_wp2_with (at_builtin;refine app_sl _ rfl _ _ 38 rfl w.heap.size 9 i0 (.string ⟨#[]⟩) 1 16 underlying38 hi0 hz0 hz1 hz2 rfl (by decide) _ _ _ rfl HOA.out No 9 _ 1 [.string ⟨pc.toArray⟩] rfl HSA.out rfl (by simp [Value.oneCell']) ?_ ?_ hbA ?_)
    ·unfold maxLen;omega
    ·omega
    intro v' w2 hown2 hg2 _;have HO2:=zh hown2;have HM2:=zh ((HM.out.trans HMA.out).then (Mod.of_grown (S:=fun q=>w.heap.size<=q) hg2 (fun q e _=>(HOA.out.lt _ e).1)) (fun i hi hq=>absurd hi (by omega)));clear hown2 hg2;obtain ⟨va,vc,rfl⟩:=own_len HO2.out;go_wp2_with fail
    refine ⟨⟨l.length+1,l.length+1,outs++[pc],by omega,by omega,rfl,rfl,?_,HM2.out,by simp;omega,.inr ⟨by omega,?_⟩⟩,by show l.length+1 - ((l.length:Int)+1).toNat < l.length+1 - (l.length:Int).toNat;omega⟩
    ·rw [List.length_append,strs_append];exact HO2.out
    ·rw [HSP.out,HST.out,HPC.out]
   ·have hkl2:k < l.length:=by omega
    have hkq:¬ (k:Int)=(l.length:Int):=by omega
    have hidx:=HX.out k hkl2;have hext:=HEX.out fr k;have HCK:=zh (HCT.out l[k]);by_cases hc:l[k]=c
    ·have hc2:l[k].toNat=x:=by rw [HXC.out,hc]
     rw [hc2] at hidx;have HST:=zh (split_step_hit (c:=c) (l:=l) (fr:=fr) hkl2 hfr (fun i hi h1 h2=>HNO.out i hi h1 h2) hc);generalize (l.drop fr).take (k - fr)=pc at *;clear HNO HCK hc2;have HMA:=zh ((Mod.refl No wr).alloc (.cells #[.string ⟨pc.toArray⟩] 9));have HOA:=zh (own_keepM HO.out HMA.out (fun _ _ f=>f));have HSA:=zh (show Sl (wr.alloc (.cells #[.string ⟨pc.toArray⟩] 9)) No 9 (.slice (some ⟨wr.heap.size,0,none⟩) 1 1) 1 [.string ⟨pc.toArray⟩] from .inr ⟨wr.heap.size,0,1,_,(0,0),rfl,Nat.le_refl _,by decide,fun f=>f,heap_alloc_new wr _,by simp,fun i hi=>by
      have h0:i=0:=by simp at hi;exact hi
      subst h0;rfl⟩)
     have hbA:w.heap.size<=(wr.alloc (.cells #[.string ⟨pc.toArray⟩] 9)).heap.size:=Nat.le_trans hbase HMA.out.size;go_wp2_with (at_builtin;refine app_sl _ rfl _ _ 38 rfl w.heap.size 9 i0 (.string ⟨#[]⟩) 1 16 underlying38 hi0 hz0 hz1 hz2 rfl (by decide) _ _ _ rfl HOA.out No 9 _ 1 [.string ⟨pc.toArray⟩] rfl HSA.out rfl (by simp [Value.oneCell']) ?_ ?_ hbA ?_)
     ·unfold maxLen;omega
     ·omega
     intro v' w2 hown2 hg2 _;have HO2:=zh hown2;have HM2:=zh ((HM.out.trans HMA.out).then (Mod.of_grown (S:=fun q=>w.heap.size<=q) hg2 (fun q e _=>(HOA.out.lt _ e).1)) (fun i hi hq=>absurd hi (by omega)));clear hown2 hg2;obtain ⟨va,vc,rfl⟩:=own_len HO2.out;go_wp2_with fail
     refine ⟨⟨k+1,k+1,outs++[pc],by omega,by omega,rfl,rfl,?_,HM2.out,by simp;omega,.inl ⟨by omega,fun i hi h1 h2=>by omega,?_⟩⟩,by show l.length+1 - ((k:Int)+1).toNat < l.length+1 - (k:Int).toNat;omega⟩
     ·rw [List.length_append,strs_append];exact HO2.out
     ·rw [HSP.out,HST.out,List.append_assoc];rfl
    ·have hc2:¬ l[k].toNat=x:=fun e=>hc (HCK.out.1 (by rw [e,HXC.out]))
     have HN2:=zh (show ∀ i (hi:i < l.length),fr<=i->i < k+1->l[i] ≠ c from fun i hi h1 h2=>by
      rcases Nat.lt_or_ge i k with h | h
      ·exact HNO.out i hi h1 h
      ·obtain rfl:i=k:=by omega
       exact hc)
     generalize l[k].toNat=y at *;have hc3:((y:Int) == (x:Int))=false:=by rw [beq_eq_false_iff_ne];omega
     have hc4:((k:Int) == (l.length:Int))=false:=by rw [beq_eq_false_iff_ne];omega
     clear HNO HCK;go_wp2_with fail
     refine ⟨⟨k+1,fr,outs,by omega,by omega,rfl,rfl,HO.out,HM.out,by omega,.inl ⟨by omega,HN2.out,HSP.out⟩⟩,by show l.length+1 - ((k:Int)+1).toNat < l.length+1 - (k:Int).toNat;omega⟩
  ·have hsp:splitC c l=outs:=by
    rcases hcase with ⟨h,_⟩ | ⟨_,h⟩
    ·omega
    ·exact h
   have HSP:=zh hsp;have hk2:¬ (k:Int)<=(l.length:Int):=by omega
   clear hsp hcase;go_wp2_with fail
   refine fin hR ⟨_,rfl,?_,HM.out⟩
   rw [HSP.out];exact HO.out
theorem words_le (l:List UInt8):(wordsL l).length<=l.length+1:=Nat.le_trans (List.length_filter_le _ _) (splitC_length_le 32 l)
theorem words_mem_le (l:List UInt8):∀ x ∈ wordsL l,x.length<=l.length/\x ≠ []:=fun x hx=>by
 obtain ⟨h1,h2⟩:=List.mem_filter.1 hx;refine ⟨splitC_mem_le 32 l x h1,?_⟩
 rintro rfl;cases h2
theorem own_less {w:World} {B B':Nat} {e:TypeId} {size:Nat} {v:Value} {n:Nat} {xs:List Value} (h:w.ownsRow B e size v n xs) (hb:B'<=B):w.ownsRow B' e size v n xs:=by
 obtain ⟨hl,h | ⟨g,cap,cur,hv,hg,hr⟩⟩:=h
 ·exact ⟨hl,.inl h⟩
 ·exact ⟨hl,.inr ⟨g,cap,cur,hv,Nat.le_trans hb hg,hr⟩⟩
section
variable {P:Program} {ops:Array Oper} {Q:Exit->Act->World->Prop} {md:Region.Mode} {S:World->Prop}
end
section
variable {P:Program} {ops:Array Oper} {Q:Exit->Act->World->Prop} {md:Region.Mode} {S:World->Prop}
end
theorem refdigits_any (l:List UInt8) (hl:l.length<=1000000) (w:World):Calls prog 79 #[strV l] w fun e w'=>e=.returned (.bool (digitsB l))/\w'=w:=by
 refine calls_hide fun R hR=>?_
 have HX:=zh (run_at l);have HZ:=zh (str_len3 l);have hT:=str_list l;unfold strV;generalize (⟨l.toArray⟩:ByteArray)=Z at *;have hZs:(Z.size:Int)=(l.length:Int):=by rw [HZ.out]
 go_enter func79,ntmps79
 go_wp2_with fail
 go_loopw [3] (fun q wr=>∃ k:Nat,k<=l.length/\q=.int .i64 k/\wr=w/\∀ i (hi:i < l.length),i < k->dig l[i]=true) (fun q _=>l.length - (intOf q).toNat)
 case atStart=>exact ⟨0,by omega,rfl,rfl,fun i _ hi=>absurd hi (by omega)⟩
 case round =>
  obtain ⟨k,hk,rfl,rfl,hall⟩:=hrel;have hk0:(0:Int)<=(k:Int):=Int.natCast_nonneg _;by_cases hlt:k < l.length
  ·have hk1:(k:Int) < (Z.size:Int):=by omega
   have hidx:=HX.out k hlt;have HN:=zh (fun h=>all_take_succ (p:=dig) hlt hall h);have HF:=zh (fun h=>not_all (p:=dig) hlt h);have HD:=zh (show dig l[k]=(decide (48<=l[k].toNat) && decide (l[k].toNat<=57)) from rfl);generalize l[k].toNat=x at *;clear hall;by_cases h1:(x:Int) < 48
   ·go_wp2_with fail
    refine fin hR ⟨?_,rfl⟩
    show Ending.returned (.bool false)=_
    rw [show digitsB l=false by unfold digitsB;rw [HF.out (by rw [HD.out,decide_eq_false (by omega:¬ 48<=x)];rfl)];rfl]
   ·by_cases h2:(57:Int) < x
    ·go_wp2_with fail
     refine fin hR ⟨?_,rfl⟩
     show Ending.returned (.bool false)=_
     rw [show digitsB l=false by unfold digitsB;rw [HF.out (by rw [HD.out,decide_eq_false (by omega:¬ x<=57),Bool.and_false])];rfl]
    ·go_wp2_with fail
     exact ⟨⟨k+1,by omega,rfl,trivial,HN.out (by rw [HD.out,decide_eq_true (by omega:48<=x),decide_eq_true (by omega:x<=57)];rfl)⟩,by show l.length - ((k:Int)+1).toNat < l.length - (k:Int).toNat;omega⟩
  ·have HA:=zh (all_of (p:=dig) (by omega) hall);clear hall;go_wp2_with fail
   refine fin hR ⟨?_,rfl⟩
   show Ending.returned (.bool (!l.isEmpty))=_
   unfold digitsB;rw [HA.out,Bool.true_and]
theorem ten10 {l:List UInt8} (h:l.all dig=true) (h10:l.length<=10) {k:Nat} (hk:k<=l.length):decV (l.take k) < 10000000000:=by
 have ha:(l.take k).all dig=true:=by
  rw [List.all_eq_true] at h ⊢;exact fun c hc=>h c (List.mem_of_mem_take hc)
 have h1:=decV_lt _ (l.take k) rfl ha;have h2:(l.take k).length<=10:=by rw [List.length_take];omega
 have h3:10 ^ (l.take k).length<=10 ^ 10:=Nat.pow_le_pow_right (by decide) h2;omega
theorem numB_le {l:List UInt8} (hd:digitsB l=true) (h10:l.length<=10) (hp:1 < l.length->l.head? ≠ some 48):numB l=decide (decV l<=999999999):=by
 have ha:l.all dig=true:=by unfold digitsB at hd;rw [Bool.and_eq_true] at hd;exact hd.1
 have hpl:plainB l=true:=by
  unfold plainB;have:=nonempty_of_digits hd;rcases Nat.lt_or_ge 1 l.length with h | h
  ·rw [decide_eq_true (hp h),Bool.or_true]
  ·rw [decide_eq_true (by omega:l.length=1)];rfl
 unfold numB;rw [hd,hpl,Bool.true_and,Bool.and_true];by_cases h9:l.length<=9
 ·have h1:=decV_lt _ l rfl ha;have h3:10 ^ l.length<=10 ^ 9:=Nat.pow_le_pow_right (by decide) h9;rw [decide_eq_true h9,decide_eq_true (by omega)]
 ·have hl:l.length=10:=by omega
  match l,hl with
  | c :: m,hl =>
   have hb:=dig_bounds (c:=c) (by rw [List.all_cons,Bool.and_eq_true] at ha;exact ha.1);have hc:49<=c.toNat:=by
    have h48:=hp (by omega);have:c.toNat ≠ 48:=fun e=>h48 (by simp [<- UInt8.toNat_inj,e])
    omega
   have h1:=decV_ge hc 9 m (by simpa using hl);rw [decide_eq_false h9,decide_eq_false (by omega)]
theorem refnumber_any (l:List UInt8) (hl:l.length<=1000000) (w:World):Calls prog 36 #[strV l,.int .i64 999999999] w fun e w'=>(∃ n:Int,e=.returned (.tuple #[.int .i64 n,.bool (numB l)])/\(numB l=true->n=(decV l:Int)))/\w'=w:=by
 refine calls_hide fun R hR=>?_
 have HX:=zh (run_at l);have hX0:0 < l.length->∀ W,(Instr.index 9 (.string ⟨l.toArray⟩) (.int .i64 0)).run prog W=.ok (.int .u8 ((l.getD 0 0).toNat:Int)) W:=fun h W=>by
  rw [List.getD_eq_getElem?_getD,List.getElem?_eq_getElem h];exact run_at l 0 h W
 have HX0:=zh hX0;have HZ:=zh (str_len3 l);have hT:=str_list l;have HDG:=zh (refdigits_any l hl);unfold strV at *;generalize (⟨l.toArray⟩:ByteArray)=Z at *;have hZs:(Z.size:Int)=(l.length:Int):=by rw [HZ.out]
 have HNB:=zh (show numB l=(digitsB l && decide (l.length<=9) && plainB l) from rfl);have HDN:=zh (nonempty_of_digits (l:=l));have HLE:=zh (numB_le (l:=l));clear hX0;go_enter func36,ntmps36
 go_wp2_with fail
 with_reducible refine (HDG.out _).mono ?_
 rintro e w ⟨rfl,rfl⟩;rcases hd:digitsB l with _ | _
 ·go_wp2_with fail
  have hb:numB l=false:=by rw [HNB.out,hd];rfl
  refine fin hR ⟨⟨0,by rw [hb];rfl,fun h=>by rw [hb] at h;cases h⟩,rfl⟩
 have h00:=HDN.out hd;have hidx0:=HX0.out h00;have HH:=zh (show l.head? = some (l.getD 0 0) by
  rw [List.head?_eq_getElem?,List.getD_eq_getElem?_getD,List.getElem?_eq_getElem h00];rfl)
 have hall:l.all dig=true:=by unfold digitsB at hd;rw [Bool.and_eq_true] at hd;exact hd.1
 have HT:=zh (fun h=>ten10 (k:=l.length) hall h);have HT2:=zh (fun h k hk=>ten10 (k:=k) hall h hk);have HT3:=zh (fun i (hi:i < l.length)=>decV_take hi);have HDB:=zh (fun i (hi:i < l.length)=>dig_bounds (List.all_eq_true.1 hall _ (List.getElem_mem hi)));have HML:=zh (show l.length<=10->(1 < l.length->l.head? ≠ some 48)->numB l=decide (decV l<=999999999) from fun a b=>HLE.out hd a b);have HP48:=zh (show 1 < l.length->(l.getD 0 0).toNat=48->numB l=false from fun a b=>by
  rw [HNB.out];have hq:plainB l=false:=by
   unfold plainB;rw [decide_eq_false (by omega:¬ l.length=1),HH.out,Bool.false_or];refine decide_eq_false (fun hne=>hne ?_)
   rw [show l.getD 0 0=48 from UInt8.toNat_inj.1 b]
  rw [hq,Bool.and_false])
 have HP49:=zh (show (l.getD 0 0).toNat ≠ 48->l.head? ≠ some 48 from fun a b=>by
  rw [HH.out] at b;exact a (by rw [Option.some.inj b];rfl))
 generalize (l.getD 0 0).toNat=c0 at *;clear hall;by_cases h1:(1:Int) < (l.length:Int)
 ·by_cases h48:(c0:Int)=48
  ·go_wp2_with fail
   have hb:=HP48.out (by omega) (by omega);refine fin hR ⟨⟨0,by rw [hb];rfl,fun h=>by rw [hb] at h;cases h⟩,rfl⟩
  ·have h48b:((c0:Int) == 48)=false:=by simpa using h48
   have HG:=zh (fun h10=>HML.out h10 (fun _=>HP49.out (by omega)));by_cases h10:(10:Int) < (l.length:Int)
   ·go_wp2_with fail
    have hb:numB l=false:=by rw [HNB.out,decide_eq_false (by omega:¬ l.length<=9),Bool.and_false];rfl
    refine fin hR ⟨⟨0,by rw [hb];rfl,fun h=>by rw [hb] at h;cases h⟩,rfl⟩
   go_wp2_with fail
   go_loopw [6,7] (fun n q wr=>∃ k:Nat,k<=l.length/\q=.int .i64 k/\wr=w/\n=.int .i64 (decV (l.take k):Int)) (fun _ q _=>l.length - (intOf q).toNat)
   case atStart=>exact ⟨0,by omega,rfl,rfl,rfl⟩
   case round =>
    obtain ⟨k,hk,rfl,rfl,rfl⟩:=hrel;have hk0:(0:Int)<=(k:Int):=Int.natCast_nonneg _;have hlt10:=HT2.out (by omega) k hk;by_cases hlt:k < l.length
    ·have hk1:(k:Int) < (Z.size:Int):=by omega
     have hidx:=HX.out k hlt;have hdb:=HDB.out k hlt;have HN:=zh (HT3.out k hlt);generalize l[k].toNat=x at *;generalize decV (l.take k)=y at *;have y0:(0:Int)<=(y:Int):=Int.natCast_nonneg _;have y1:(y:Int) < 10000000000:=by omega
     have x0:(48:Int)<=(x:Int):=by omega
     have x1:(x:Int)<=57:=by omega
     go_wp2_with fail
     exact ⟨⟨k+1,by omega,rfl,trivial,congrArg _ (by rw [HN.out];omega)⟩,by show l.length - ((k:Int)+1).toNat < l.length - (k:Int).toNat;omega⟩
    ·have hkl:k=l.length:=by omega
     subst hkl;rw [List.take_length] at hlt10 ⊢;have hnb:=HG.out (by omega);generalize decV l=y at *;go_wp2_with fail
     refine fin hR ⟨⟨(y:Int),?_,fun _=>rfl⟩,rfl⟩
     rw [hnb];refine congrArg (fun b=>Ending.returned (.tuple #[.int .i64 (y:Int),.bool b])) ?_;exact decide_eq_decide.2 (by omega)
 ·have HG:=zh (fun h10=>HML.out h10 (fun h=>absurd h (by omega)));by_cases h10:(10:Int) < (l.length:Int)
  ·omega
  go_wp2_with fail
  go_loopw [6,7] (fun n q wr=>∃ k:Nat,k<=l.length/\q=.int .i64 k/\wr=w/\n=.int .i64 (decV (l.take k):Int)) (fun _ q _=>l.length - (intOf q).toNat)
  case atStart=>exact ⟨0,by omega,rfl,rfl,rfl⟩
  case round =>
   obtain ⟨k,hk,rfl,rfl,rfl⟩:=hrel;have hk0:(0:Int)<=(k:Int):=Int.natCast_nonneg _;have hlt10:=HT2.out (by omega) k hk;by_cases hlt:k < l.length
   ·have hk1:(k:Int) < (Z.size:Int):=by omega
    have hidx:=HX.out k hlt;have hdb:=HDB.out k hlt;have HN:=zh (HT3.out k hlt);generalize l[k].toNat=x at *;generalize decV (l.take k)=y at *;have y0:(0:Int)<=(y:Int):=Int.natCast_nonneg _;have y1:(y:Int) < 10000000000:=by omega
    have x0:(48:Int)<=(x:Int):=by omega
    have x1:(x:Int)<=57:=by omega
    go_wp2_with fail
    exact ⟨⟨k+1,by omega,rfl,trivial,congrArg _ (by rw [HN.out];omega)⟩,by show l.length - ((k:Int)+1).toNat < l.length - (k:Int).toNat;omega⟩
   ·have hkl:k=l.length:=by omega
    subst hkl;rw [List.take_length] at hlt10 ⊢;have hnb:=HG.out (by omega);generalize decV l=y at *;go_wp2_with fail
    refine fin hR ⟨⟨(y:Int),?_,fun _=>rfl⟩,rfl⟩
    rw [hnb];refine congrArg (fun b=>Ending.returned (.tuple #[.int .i64 (y:Int),.bool b])) ?_;exact decide_eq_decide.2 (by omega)
theorem plain_refs {l:List UInt8} (h0:0 < l.length):plainB l=(decide (l=[48]) || decide ((l.getD 0 0).toNat ≠ 48)):=by
 unfold plainB;match l,h0 with
 | [c],_=>simp [<- UInt8.toNat_inj]
 | c :: d :: l,_=>simp [<- UInt8.toNat_inj]
theorem refmark_any (l:List UInt8) (hl:l.length<=1000000) (w:World):Calls prog 35 #[strV l] w fun e w'=>e=.returned (.bool (markB l))/\w'=w:=by
 refine calls_hide fun R hR=>?_
 have HX:=zh (run_at l);have HX0:=zh (show 0 < l.length->∀ W,(Instr.index 9 (.string ⟨l.toArray⟩) (.int .i64 0)).run prog W=.ok (.int .u8 ((l.getD 0 0).toNat:Int)) W from fun h W=>by
  rw [List.getD_eq_getElem?_getD,List.getElem?_eq_getElem h];exact run_at l 0 h W)
 have HZ:=zh (str_len3 l);have hT:=str_list l;have HDG:=zh (refdigits_any l hl);have HPR:=zh (plain_refs (l:=l));unfold strV at *;generalize (⟨l.toArray⟩:ByteArray)=Z at *;have hZs:(Z.size:Int)=(l.length:Int):=by rw [HZ.out]
 have HMB:=zh (show markB l=(!l.isEmpty && decide (l.length<=16) && (!digitsB l || plainB l) && l.all signB) from rfl);go_enter func35,ntmps35
 by_cases h0:l=[]
 ·subst h0;have h00:(([]:List UInt8).length:Int) < 1:=by decide
  go_wp2_with fail
  refine fin hR ⟨bool_ret ?_,rfl⟩
  rfl
 have hne:l.isEmpty=false:=by simpa using h0
 have hn1:0 < l.length:=List.length_pos_iff.2 h0;have hn2:¬ (l.length:Int) < 1:=by omega
 by_cases h16:(16:Int) < (l.length:Int)
 ·go_wp2_with fail
  refine fin hR ⟨bool_ret ?_,rfl⟩
  rw [HMB.out,decide_eq_false (by omega:¬ l.length<=16),Bool.and_false];rfl
 have HMC:=zh (show markB l=((!digitsB l || plainB l) && l.all signB) by
  rw [HMB.out,hne,decide_eq_true (by omega:l.length<=16)];rfl)
 clear HMB;go_wp2_with fail
 go_loopw [3] (fun q wr=>∃ k:Nat,k<=l.length/\q=.int .i64 k/\wr=w/\∀ i (hi:i < l.length),i < k->signB l[i]=true) (fun q _=>l.length - (intOf q).toNat)
 case atStart=>exact ⟨0,by omega,rfl,rfl,fun i _ hi=>absurd hi (by omega)⟩
 case round =>
  obtain ⟨k,hk,rfl,rfl,hall⟩:=hrel;have hk0:(0:Int)<=(k:Int):=Int.natCast_nonneg _;by_cases hlt:k < l.length
  ·have hk1:(k:Int) < (Z.size:Int):=by omega
   have hidx:=HX.out k hlt;have HN:=zh (fun h=>all_take_succ (p:=signB) hlt hall h);have HF:=zh (fun h=>not_all (p:=signB) hlt h);have HS:=zh (show signB l[k]=((decide (48<=l[k].toNat) && decide (l[k].toNat<=57)) || (decide (97<=l[k].toNat) && decide (l[k].toNat<=122)) || (decide (65<=l[k].toNat) && decide (l[k].toNat<=90)) || decide (l[k].toNat=45)) from rfl);generalize signB l[k]=sg at *;generalize l[k].toNat=x at *;clear hall;go_wp2_with fail
   all_goals
    rename_i hlast;try simp at hlast
    first
     | exact ⟨⟨k+1,by omega,rfl,trivial,HN.out (by rw [HS.out];simp;omega)⟩,by show l.length - ((k:Int)+1).toNat < l.length - (k:Int).toNat;omega⟩
     |(refine fin hR ⟨bool_ret ?_,rfl⟩
       rw [HMC.out,HF.out (by rw [HS.out,<- Bool.not_eq_true];simp;omega),Bool.and_false])
     |(rename_i h4 h3 h2
       simp at h4
       refine fin hR ⟨bool_ret ?_,rfl⟩
       rw [HMC.out,HF.out (by rw [HS.out,<- Bool.not_eq_true];simp;omega),Bool.and_false])
  ·have HA:=zh (all_of (p:=signB) (by omega) hall);clear hall;go_wp2_with fail
   with_reducible refine (HDG.out _).mono ?_
   rintro e w ⟨rfl,rfl⟩;have hidx0:=HX0.out hn1;have HPQ:=zh (HPR.out hn1);generalize (l.getD 0 0).toNat=x at *;generalize digitsB l=D at *;rcases D with _ | _
   ·go_wp2_with fail
    refine fin hR ⟨bool_ret ?_,rfl⟩
    rw [HMC.out,HA.out];rfl
   ·by_cases h48:l=[48]
    ·have hb:(l == [48])=true:=by rw [h48];rfl
     go_wp2_with fail
     refine fin hR ⟨bool_ret ?_,rfl⟩
     rw [HMC.out,HPQ.out,HA.out,decide_eq_true h48];rfl
    ·have hb:(l == [48])=false:=by simpa using h48
     go_wp2_with fail
     refine fin hR ⟨bool_ret ?_,rfl⟩
     rw [HMC.out,HPQ.out,HA.out,decide_eq_false h48,Bool.eq_iff_iff];simp
     try omega
theorem head_at {l:List UInt8} {k:Nat} (hk:k < l.length) (hno:∀ i (hi:i < l.length),i < k->l[i] ≠ 45) (hc:l[k]=45):45 ∈ l/\headC 45 l=l.take k/\tailC 45 l=l.drop (k+1):=by
 have e:l=l.take k++45 :: l.drop (k+1):=by
  conv=>lhs;rw [<- List.take_append_drop k l]
  rw [List.drop_eq_getElem_cons hk,hc]
 have hn:∀ d ∈ l.take k,d ≠ 45:=fun d hd=>by
  obtain ⟨i,hi,rfl⟩:=List.getElem_of_mem hd;rw [List.length_take] at hi;rw [List.getElem_take];exact hno _ (by omega) (by omega)
 refine ⟨by rw [e];simp,?_,?_⟩
 ·conv=>lhs;rw [e]
  exact headC_hit _ hn
 ·conv=>lhs;rw [e]
  exact tailC_hit _ hn
theorem versionof_any (l:List UInt8) (hl:l.length<=1000000) (w:World) :
  Calls prog 11 #[strV l] w fun e w'=>((verOf l=none/\e=.returned (.tuple #[verV ⟨0,0,0,[]⟩ (.slice none 0 0),.int .i64 60]))\/∃ v pv,verOf l=some v/\e=.returned (.tuple #[verV v pv,.int .i64 0])/\Sl w' No 9 pv v.pre.length (strs v.pre))/\Mod No w w':=by
 refine calls_hide fun R hR=>?_
 have HX:=zh (run_at l);have HEX:=zh (str_to l);have HEF:=zh (str_from l);have HZ:=zh (str_len3 l);have HSP:=zh (show ∀ m:List UInt8,m.length<=l.length->∀ w:World,Calls prog 34 #[strV m,.int .u8 46] w fun e w'=>∃ v,e=.returned v/\w'.ownsRow w.heap.size 9 1 v (splitC 46 m).length (strs (splitC 46 m))/\Mod No w w' from fun m h w=>refsplit_any 46 m (by omega) w);have HNUM:=zh (fun m (h:m.length<=l.length)=>refnumber_any m (by omega));have HMK:=zh (fun m (h:m.length<=l.length)=>refmark_any m (by omega));have HSM:=zh (splitC_mem_le 46);have HSL:=zh (splitC_length_le 46);have HVL:=zh (verOf_len (l:=l));unfold strV at *;generalize hZe:(⟨l.toArray⟩:ByteArray)=Z at *;have HZE:=zh hZe;clear hZe;have hZs:(Z.size:Int)=(l.length:Int):=by rw [HZ.out]
 go_enter func11,ntmps11
 go_upto_region 1 with fail
 obtain ⟨rb,hrb⟩:∃ g,g=w.heap.size:=⟨_,rfl⟩
 rw [<- hrb];generalize hw1:World.alloc w _=w1;have HM1:=zh (show Mod No w w1 by rw [<- hw1];exact (Mod.refl No w).alloc _);have HR1:=zh (show w1.heap[rb]? = some (.cells #[.int .i64 0,.int .i64 0,.int .i64 0,.slice none 0 0] 40 (0,0)) by rw [<- hw1,hrb];exact heap_alloc_new w _);have HRB:=zh hrb;clear hw1 hrb;go_upto_region 2 with fail
 obtain ⟨vb,hvb⟩:∃ g,g=w1.heap.size:=⟨_,rfl⟩
 rw [<- hvb];generalize hw2:World.alloc w1 _=w2;have HM2:=zh (show Mod No w w2 by rw [<- hw2];exact HM1.out.alloc _);have HR2:=zh (show w2.heap[rb]? = some (.cells #[.int .i64 0,.int .i64 0,.int .i64 0,.slice none 0 0] 40 (0,0)) by rw [<- hw2];exact heap_alloc_old _ HR1.out);have HV2:=zh (show w2.heap[vb]? = some (.cells #[.int .i64 0,.int .i64 0,.int .i64 0,.slice none 0 0] 40 (0,0)) by rw [<- hw2,hvb];exact heap_alloc_new w1 _);have HVB:=zh (show rb < vb by rw [hvb];exact lt_of_heap HR1.out);clear hw2 hvb HM1 HR1;go_wp2_with fail
 go_loopw [5,6] (fun cv q wr=>∃ k:Nat,k<=l.length/\cv=.string Z/\q=.int .i64 k/\wr=w2/\∀ i (hi:i < l.length),i < k->l[i] ≠ 45) (fun _ q _=>l.length - (intOf q).toNat)
 case atStart=>exact ⟨0,by omega,rfl,rfl,rfl,fun i _ hi=>absurd hi (by omega)⟩
 case round =>
  obtain ⟨k,hk,rfl,rfl,rfl,hno⟩:=hrel;have hk0:(0:Int)<=(k:Int):=Int.natCast_nonneg _;by_cases hlt:k < l.length
  ·have hk1:(k:Int) < (Z.size:Int):=by omega
   have hidx:=HX.out k hlt;by_cases h45:l[k]=45
   ·obtain ⟨hmem,hhd,htl⟩:=head_at hlt hno h45;have HCO:=zh hhd;have HPO:=zh (show preOf l=splitC 46 (l.drop (k+1)) by unfold preOf;rw [if_pos hmem,htl]);have HPK0:=zh (show preOk l=(decide ((preOf l).length<=5) && (preOf l).all markB) by unfold preOk;rw [decide_eq_false (fun h=>h hmem),Bool.false_or]);have hco:(l.take k).length<=l.length:=by rw [List.length_take];omega
    have htl2:(l.drop (k+1)).length<=l.length:=by rw [List.length_drop];omega
    have hto:=HEX.out k;have hfrom:=HEF.out (k+1);rw [h45] at hidx;clear hno hmem hhd htl;go_wp2_with fail
    with_reducible refine (HSP.out _ htl2 _).mono ?_
    rintro e w7 ⟨pv,rfl,hown,hm7⟩;rw [<- HPO.out] at hown;have HP7:=zh (Sl.of_own (X:=No) hown (fun _ _ f=>f));obtain ⟨qa,qc,rfl⟩:=HP7.out.len;have HM7:=zh (HM2.out.trans hm7);have HR7:=zh (hm7.keep HR2.out (fun f=>f));have HV7:=zh (hm7.keep HV2.out (fun f=>f));have hps:∀ x ∈ preOf l,x.length<=l.length:=fun x hx=>by
     rw [HPO.out] at hx;have:=HSM.out _ x hx;omega
    have hpl:(preOf l).length<=1000001:=by
     rw [HPO.out];have:=HSL.out (l.drop (k+1));omega
    clear hm7 hown HM2 HR2 HV2 HPO;obtain ⟨pr,hpr⟩:∃ p,p=preOf l:=⟨_,rfl⟩
    rw [<- hpr] at HP7 HPK0 hps hpl;rw [<- hpr];have HPO:=zh hpr.symm;clear hpr;obtain ⟨⟨c0,c1,c2,c3⟩,f0,f1,f2,f3⟩:=cells4 HV7.out;go_upto_region 9 with fail
    have HV8:=zh (show (w7.setCell ⟨vb,3,none⟩ (.slice qa pr.length qc)).heap[vb]? = some (.cells #[.int .i64 0,.int .i64 0,.int .i64 0,.slice qa pr.length qc] 40 (0,0)) by rw [heap_setCell HV7.out];rfl);have HM8:=zh (show Mod No w (w7.setCell ⟨vb,3,none⟩ (.slice qa pr.length qc)) from HM7.out.setCell (fun h=>by have:=HRB.out;have:=HVB.out;dsimp only at h;omega) _);have HR8:=zh (show (w7.setCell ⟨vb,3,none⟩ (.slice qa pr.length qc)).heap[rb]? = some (.cells #[.int .i64 0,.int .i64 0,.int .i64 0,.slice none 0 0] 40 (0,0)) by rw [heap_setCell_ne _ (by have:=HVB.out;dsimp only;omega)];exact HR7.out);have HP8:=zh (show Sl (w7.setCell ⟨vb,3,none⟩ (.slice qa pr.length qc)) No 9 (.slice qa pr.length qc) pr.length (strs pr) from HP7.out.keep (S:=fun p=>p=vb) (Mod.cell1 w7 vb 3 _) (fun k cur fz hk _ hc=>by subst hk;rw [HV7.out] at hc;cases hc));generalize w7.setCell ⟨vb,3,none⟩ (.slice qa pr.length qc)=w8 at *;clear c0 c1 c2 c3 f0 f1 f2 f3 HR7 HV7 HM7 HP7;obtain ⟨⟨c0,c1,c2,c3⟩,-⟩:=cells4 HV8.out;by_cases h5:(5:Int) < (pr.length:Int)
    ·have HN:=zh (show verOf l=none by
      match hs:splitC 46 (headC 45 l) with
      | [a,b,c]=>rw [verOf_three hs,HPK0.out,decide_eq_false (by omega:¬ pr.length<=5)];simp
      | []=>exact verOf_len (by rw [hs];decide)
      | [_]=>exact verOf_len (by rw [hs];simp)
      | [_,_]=>exact verOf_len (by rw [hs];simp)
      | _ :: _ :: _ :: _ :: _=>exact verOf_len (by rw [hs];simp))
     obtain ⟨⟨d0,d1,d2,d3⟩,g0,g1,g2,g3⟩:=cells4 HR8.out;go_wp2_with fail
     have hl:=load_ver (set4 HR8.out (.int .i64 0) (.int .i64 0) (.int .i64 0) (.slice none 0 0));have HMz:=zh (HM8.out.set4 (b:=rb) (fun h=>by have:=HRB.out;omega) (.int .i64 0) (.int .i64 0) (.int .i64 0) (.slice none 0 0));exact bodyPost_ret (v:=.tuple #[verV ⟨0,0,0,[]⟩ (.slice none 0 0),.int .i64 60]) (by simp [results,results11,asAddr,hl]) rfl (fin hR ⟨.inl ⟨HN.out,rfl⟩,HMz.out⟩)
    ·have hq5:pr.length<=5:=by omega
     have HNA:=zh (show pr.all markB=false->verOf l=none from fun hq=>by
      match hs:splitC 46 (headC 45 l) with
      | [a,b,c]=>rw [verOf_three hs,HPK0.out,hq,Bool.and_false];simp
      | []=>exact verOf_len (by rw [hs];decide)
      | [_]=>exact verOf_len (by rw [hs];simp)
      | [_,_]=>exact verOf_len (by rw [hs];simp)
      | _ :: _ :: _ :: _ :: _=>exact verOf_len (by rw [hs];simp))
     go_wp2_with fail
     go_loopw [7] (fun q wr=>∃ j:Nat,j<=pr.length/\q=.int .i64 j/\wr=w8/\∀ i (hi:i < pr.length),i < j->markB pr[i]=true) (fun q _=>pr.length - (intOf q).toNat)
     case atStart=>exact ⟨0,by omega,rfl,rfl,fun i _ hi=>absurd hi (by omega)⟩
     case round =>
      obtain ⟨j,hj,rfl,rfl,hall⟩:=hrel;have hj0:(0:Int)<=(j:Int):=Int.natCast_nonneg _;have HAL:=zh hall;clear hall;by_cases hjt:j < pr.length
      ·have hj1:(j:Int) < (pr.length:Int):=by omega
       obtain ⟨pb,po,pc2,hpv,_⟩:=HP8.out.shape (by omega);cases hpv
       have hcell:wr.cell? ⟨pb,po+j,none⟩=some (strV pr[j]):=by
        have:=HP8.out.cellN (i:=j) (by rw [strs_length];exact hjt);rw [this];simp [strs]
       have hlj:=hps pr[j] (List.getElem_mem hjt);have HMJ:=zh (HMK.out pr[j] hlj);have HFJ:=zh (show markB pr[j]=false->pr.all markB=false from fun h=>by
        rw [<- Bool.not_eq_true,List.all_eq_true];intro hh;rw [hh _ (List.getElem_mem hjt)] at h;cases h)
       have HNJ:=zh (show markB pr[j]=true->∀ i (hi:i < pr.length),i < j+1->markB pr[i]=true from fun h i hi hij=>by
        rcases Nat.lt_or_ge i j with h3 | h3
        ·exact HAL.out i hi h3
        ·obtain rfl:i=j:=by omega
         exact h)
       generalize pr[j]=pj at *;go_wp2_with fail
       with_reducible refine (HMJ.out _).mono ?_
       rintro e w9 ⟨rfl,rfl⟩;rcases hb:markB pj with _ | _
       ·have HN:=zh (HNA.out (HFJ.out hb));obtain ⟨⟨d0,d1,d2,d3⟩,g0,g1,g2,g3⟩:=cells4 HR8.out;go_wp2_with fail
        have hl:=load_ver (set4 HR8.out (.int .i64 0) (.int .i64 0) (.int .i64 0) (.slice none 0 0));have HMz:=zh (HM8.out.set4 (b:=rb) (fun h=>by have:=HRB.out;omega) (.int .i64 0) (.int .i64 0) (.int .i64 0) (.slice none 0 0));exact bodyPost_ret (v:=.tuple #[verV ⟨0,0,0,[]⟩ (.slice none 0 0),.int .i64 60]) (by simp [results,results11,asAddr,hl]) rfl (fin hR ⟨.inl ⟨HN.out,rfl⟩,HMz.out⟩)
       ·go_wp2_with fail
        exact ⟨⟨j+1,by omega,rfl,trivial,HNJ.out hb⟩,by show pr.length - ((j:Int)+1).toNat < pr.length - (j:Int).toNat;omega⟩
      ·have HPK:=zh (show preOk l=true by
        rw [HPK0.out,decide_eq_true hq5,Bool.true_and,List.all_eq_true];intro x hx;obtain ⟨i,hi,rfl⟩:=List.getElem_of_mem hx;exact HAL.out i hi (by omega))
       clear HAL;go_wp2_with fail
       have HMX:=HM8;have HRX:=HR8;have HVX:=HV8;have HPX:=HP8;obtain ⟨prv,hprv⟩:∃ v:Value,v=.slice qa pr.length qc:=⟨_,rfl⟩
       rw [<- hprv] at HVX HPX;clear HM8 HR8 HV8 HP8 hprv HNA HPK0 c0 c1 c2 c3;generalize l.take k=co at *;obtain ⟨va,vc,rfl⟩:=HPX.out.len;with_reducible refine (HSP.out co hco _).mono ?_
       rintro e w3 ⟨sv,rfl,hown,hm3⟩;have HM3:=zh (HMX.out.trans hm3);have HR3:=zh (hm3.keep HRX.out (fun f=>f));have HV3:=zh (hm3.keep HVX.out (fun f=>f));have HP3:=zh (HPX.out.kn hm3);have HS3:=zh (Sl.of_own (X:=No) hown (fun _ _ f=>f));clear hm3 HMX HRX HVX HPX hown;obtain ⟨sa,sc,rfl⟩:=HS3.out.len;have hx1:∀ x ∈ splitC 46 co,x.length<=l.length:=fun x hx=>by have:=HSM.out _ x hx;omega
       have hv3:=HVL.out;have h3v:=fun a b c=>verOf_three (l:=l) (a:=a) (b:=b) (c:=c)
       rw [HCO.out] at hv3 h3v;generalize splitC 46 co=ps at *;by_cases h3:ps.length=3
       ·obtain ⟨pA,pB,pC,rfl⟩:∃ pA pB pC,ps=[pA,pB,pC]:=by
         match ps,h3 with
         | [a,b,c],_=>exact ⟨a,b,c,rfl⟩
        have HV:=zh (h3v pA pB pC rfl);have hlA:=hx1 pA (by simp);have hlB:=hx1 pB (by simp);have hlC:=hx1 pC (by simp);have e3:[pA,pB,pC].length=3:=rfl;rw [e3] at HS3;rw [e3];clear hx1 hv3 h3v HVL e3 h3;obtain ⟨pb,po,pc2,hpv,_⟩:=HS3.out.shape (by decide);cases hpv
        have HCA:=zh (show w3.cell? ⟨pb,po,none⟩=some (strV pA) from HS3.out.cellN (i:=0) (by simp));have HCB:=zh (show w3.cell? ⟨pb,po+1,none⟩=some (strV pB) from HS3.out.cellN (i:=1) (by simp));have HCC:=zh (show w3.cell? ⟨pb,po+2,none⟩=some (strV pC) from HS3.out.cellN (i:=2) (by simp));have ca:=HCA.out;go_wp2_with fail
        with_reducible refine (HNUM.out pA hlA _).mono ?_
        rintro e w3 ⟨⟨nA,rfl,hA⟩,rfl⟩;have cb:=HCB.out;have HA:=zh hA;clear ca hA;go_wp2_with fail
        with_reducible refine (HNUM.out pB hlB _).mono ?_
        rintro e w3 ⟨⟨nB,rfl,hB⟩,rfl⟩;have cc:=HCC.out;have HB:=zh hB;clear cb hB;go_wp2_with fail
        with_reducible refine (HNUM.out pC hlC _).mono ?_
        rintro e w3 ⟨⟨nC,rfl,hC⟩,rfl⟩;have HC:=zh hC;clear cc hC;obtain ⟨⟨d0,d1,d2,d3⟩,g0,g1,g2,g3⟩:=cells4 HR3.out;rcases hbA:numB pA with _ | _
        ·have HN:=zh (show verOf l=none by rw [HV.out,hbA];rfl);go_wp2_with fail
         have hl:=load_ver (set4 HR3.out (.int .i64 0) (.int .i64 0) (.int .i64 0) (.slice none 0 0));have HMz:=zh (HM3.out.set4 (b:=rb) (fun h=>by have:=HRB.out;omega) (.int .i64 0) (.int .i64 0) (.int .i64 0) (.slice none 0 0));exact bodyPost_ret (v:=.tuple #[verV ⟨0,0,0,[]⟩ (.slice none 0 0),.int .i64 60]) (by simp [results,results11,asAddr,hl]) rfl (fin hR ⟨.inl ⟨HN.out,rfl⟩,HMz.out⟩)
        rcases hbB:numB pB with _ | _
        ·have HN:=zh (show verOf l=none by rw [HV.out,hbB];simp);go_wp2_with fail
         have hl:=load_ver (set4 HR3.out (.int .i64 0) (.int .i64 0) (.int .i64 0) (.slice none 0 0));have HMz:=zh (HM3.out.set4 (b:=rb) (fun h=>by have:=HRB.out;omega) (.int .i64 0) (.int .i64 0) (.int .i64 0) (.slice none 0 0));exact bodyPost_ret (v:=.tuple #[verV ⟨0,0,0,[]⟩ (.slice none 0 0),.int .i64 60]) (by simp [results,results11,asAddr,hl]) rfl (fin hR ⟨.inl ⟨HN.out,rfl⟩,HMz.out⟩)
        rcases hbC:numB pC with _ | _
        ·have HN:=zh (show verOf l=none by rw [HV.out,hbC];simp);go_wp2_with fail
         have hl:=load_ver (set4 HR3.out (.int .i64 0) (.int .i64 0) (.int .i64 0) (.slice none 0 0));have HMz:=zh (HM3.out.set4 (b:=rb) (fun h=>by have:=HRB.out;omega) (.int .i64 0) (.int .i64 0) (.int .i64 0) (.slice none 0 0));exact bodyPost_ret (v:=.tuple #[verV ⟨0,0,0,[]⟩ (.slice none 0 0),.int .i64 60]) (by simp [results,results11,asAddr,hl]) rfl (fin hR ⟨.inl ⟨HN.out,rfl⟩,HMz.out⟩)
        obtain rfl:=HA.out hbA;obtain rfl:=HB.out hbB;obtain rfl:=HC.out hbC;have HN:=zh (show verOf l=some ⟨decV pA,decV pB,decV pC,pr⟩ by rw [HV.out,hbA,hbB,hbC,HPK.out,HPO.out];rfl);clear HV HA HB HC HCA HCB HCC hbA hbB hbC;generalize (decV pA:Int)=a at *;generalize (decV pB:Int)=b at *;generalize (decV pC:Int)=c at *;obtain ⟨⟨c0,c1,c2,c3⟩,f0,f1,f2,f3⟩:=cells4 HV3.out;go_upto_region 25 with fail
        have HV4:=zh (show (((w3.setCell ⟨vb,0,none⟩ (.int .i64 a)).setCell ⟨vb,1,none⟩ (.int .i64 b)).setCell ⟨vb,2,none⟩ (.int .i64 c)).heap[vb]? = some (.cells #[.int .i64 a,.int .i64 b,.int .i64 c,(.slice va pr.length vc)] 40 (0,0)) by rw [heap_setCell (heap_setCell (heap_setCell HV3.out _) _) _];rfl);have HM4':=zh (show Mod (fun p=>p=vb) w3 (((w3.setCell ⟨vb,0,none⟩ (.int .i64 a)).setCell ⟨vb,1,none⟩ (.int .i64 b)).setCell ⟨vb,2,none⟩ (.int .i64 c)) from ((Mod.cell1 w3 vb 0 (.int .i64 a)).setCell (p:=⟨vb,1,none⟩) (fun _=>rfl) _).setCell (p:=⟨vb,2,none⟩) (fun _=>rfl) _);generalize World.setCell _ ⟨vb,2,none⟩ _=w4 at *;have HM4:=zh (HM3.out.then HM4'.out (fun i hi e=>by have:=HVB.out;have:=HRB.out;omega));have HR4:=zh (HM4'.out.keep HR3.out (fun e=>by have:=HVB.out;omega));have HP4:=zh (HP3.out.keep HM4'.out (fun k cur fz hk _ hc=>by subst hk;rw [HV3.out] at hc;cases hc));clear c0 c1 c2 c3 f0 f1 f2 f3 d0 d1 d2 d3 g0 g1 g2 g3 HM3 HR3 HV3 HP3 HS3 HM4';obtain ⟨⟨c0,c1,c2,c3⟩,-⟩:=cells4 HV4.out;obtain ⟨⟨d0,d1,d2,d3⟩,g0,g1,g2,g3⟩:=cells4 HR4.out;go_wp2_with fail
        have hl:=load_ver (set4 HR4.out (.int .i64 a) (.int .i64 b) (.int .i64 c) (.slice va pr.length vc));have HMz:=zh (HM4.out.set4 (b:=rb) (fun h=>by have:=HRB.out;omega) (.int .i64 a) (.int .i64 b) (.int .i64 c) (.slice va pr.length vc));have HPz:=zh (HP4.out.keep (Mod.set4 (S:=fun p=>p=rb) (b:=rb) (Mod.refl _ w4) (fun _=>rfl) (.int .i64 a) (.int .i64 b) (.int .i64 c) (.slice va pr.length vc)) (fun k cur fz hk _ hc=>by subst hk;rw [HR4.out] at hc;cases hc));exact bodyPost_ret (v:=.tuple #[verV ⟨a,b,c,pr⟩ (.slice va pr.length vc),.int .i64 0]) (by simp [results,results11,asAddr,hl]) rfl (fin hR ⟨.inr ⟨_,_,HN.out,rfl,HPz.out⟩,HMz.out⟩)
       ·have h3i:((ps.length:Int) != 3)=true:=by simp;omega
        have HN:=zh (hv3 h3);clear hx1 hv3 h3v;obtain ⟨⟨d0,d1,d2,d3⟩,g0,g1,g2,g3⟩:=cells4 HR3.out;go_wp2_with fail
        have hl:=load_ver (set4 HR3.out (.int .i64 0) (.int .i64 0) (.int .i64 0) (.slice none 0 0));have HMz:=zh (HM3.out.set4 (b:=rb) (fun h=>by have:=HRB.out;omega) (.int .i64 0) (.int .i64 0) (.int .i64 0) (.slice none 0 0));exact bodyPost_ret (v:=.tuple #[verV ⟨0,0,0,[]⟩ (.slice none 0 0),.int .i64 60]) (by simp [results,results11,asAddr,hl]) rfl (fin hR ⟨.inl ⟨HN.out,rfl⟩,HMz.out⟩)
   ·have h45b:((l[k].toNat:Int) == 45)=false:=by
     rw [beq_eq_false_iff_ne];intro e;exact h45 (UInt8.toNat_inj.1 (by have:l[k].toNat=45:=(by omega);rw [this];rfl))
    have HN2:=zh (show ∀ i (hi:i < l.length),i < k+1->l[i] ≠ 45 from fun i hi h2=>by
     rcases Nat.lt_or_ge i k with h | h
     ·exact hno i hi h
     ·obtain rfl:i=k:=by omega
      exact h45)
    clear hno;go_wp2_with fail
    exact ⟨⟨k+1,by omega,rfl,rfl,trivial,HN2.out⟩,by show l.length - ((k:Int)+1).toNat < l.length - (k:Int).toNat;omega⟩
  ·have hnm:45 ∉ l:=fun h=>by
    obtain ⟨i,hi,hh⟩:=List.getElem_of_mem h;exact hno i hi (by omega) hh
   have HCO:=zh (show headC 45 l=l from headC_none (fun d hd e=>hnm (e ▸ hd)));have HPO:=zh (show preOf l=[] from if_neg hnm);have HPK:=zh (show preOk l=true by unfold preOk;rw [decide_eq_true hnm];rfl);have HMX:=HM2;have HRX:=HR2;have HVX:=HV2;obtain ⟨prv,hprv⟩:∃ v:Value,v=.slice none 0 0:=⟨_,rfl⟩
   obtain ⟨pr,hpr⟩:∃ p:List (List UInt8),p=[]:=⟨_,rfl⟩
   have HPX:=zh (show Sl wr No 9 prv pr.length (strs pr) from .inl ⟨hprv,by rw [hpr];rfl,by rw [hpr];rfl⟩);rw [<- hprv] at HVX;rw [<- hpr] at HPO;have HCO2:=zh (show headC 45 l=l.take l.length by rw [HCO.out,List.take_length]);rw [<- HZE.out];clear hno hnm HM2 HR2 HV2 hpr hprv HCO;go_wp2_with fail
   rw [show l=l.take l.length from (List.take_length).symm];have hco:(l.take l.length).length<=l.length:=by rw [List.take_length];exact Nat.le_refl _
   generalize l.take l.length=co at *;have HCO:=HCO2;clear HCO2;obtain ⟨va,vc,rfl⟩:=HPX.out.len;with_reducible refine (HSP.out co hco _).mono ?_
   rintro e w3 ⟨sv,rfl,hown,hm3⟩;have HM3:=zh (HMX.out.trans hm3);have HR3:=zh (hm3.keep HRX.out (fun f=>f));have HV3:=zh (hm3.keep HVX.out (fun f=>f));have HP3:=zh (HPX.out.kn hm3);have HS3:=zh (Sl.of_own (X:=No) hown (fun _ _ f=>f));clear hm3 HMX HRX HVX HPX hown;obtain ⟨sa,sc,rfl⟩:=HS3.out.len;have hx1:∀ x ∈ splitC 46 co,x.length<=l.length:=fun x hx=>by have:=HSM.out _ x hx;omega
   have hv3:=HVL.out;have h3v:=fun a b c=>verOf_three (l:=l) (a:=a) (b:=b) (c:=c)
   rw [HCO.out] at hv3 h3v;generalize splitC 46 co=ps at *;by_cases h3:ps.length=3
   ·obtain ⟨pA,pB,pC,rfl⟩:∃ pA pB pC,ps=[pA,pB,pC]:=by
     match ps,h3 with
     | [a,b,c],_=>exact ⟨a,b,c,rfl⟩
    have HV:=zh (h3v pA pB pC rfl);have hlA:=hx1 pA (by simp);have hlB:=hx1 pB (by simp);have hlC:=hx1 pC (by simp);have e3:[pA,pB,pC].length=3:=rfl;rw [e3] at HS3;rw [e3];clear hx1 hv3 h3v HVL e3 h3;obtain ⟨pb,po,pc2,hpv,_⟩:=HS3.out.shape (by decide);cases hpv
    have HCA:=zh (show w3.cell? ⟨pb,po,none⟩=some (strV pA) from HS3.out.cellN (i:=0) (by simp));have HCB:=zh (show w3.cell? ⟨pb,po+1,none⟩=some (strV pB) from HS3.out.cellN (i:=1) (by simp));have HCC:=zh (show w3.cell? ⟨pb,po+2,none⟩=some (strV pC) from HS3.out.cellN (i:=2) (by simp));have ca:=HCA.out;go_wp2_with fail
    with_reducible refine (HNUM.out pA hlA _).mono ?_
    rintro e w3 ⟨⟨nA,rfl,hA⟩,rfl⟩;have cb:=HCB.out;have HA:=zh hA;clear ca hA;go_wp2_with fail
    with_reducible refine (HNUM.out pB hlB _).mono ?_
    rintro e w3 ⟨⟨nB,rfl,hB⟩,rfl⟩;have cc:=HCC.out;have HB:=zh hB;clear cb hB;go_wp2_with fail
    with_reducible refine (HNUM.out pC hlC _).mono ?_
    rintro e w3 ⟨⟨nC,rfl,hC⟩,rfl⟩;have HC:=zh hC;clear cc hC;obtain ⟨⟨d0,d1,d2,d3⟩,g0,g1,g2,g3⟩:=cells4 HR3.out;rcases hbA:numB pA with _ | _
    ·have HN:=zh (show verOf l=none by rw [HV.out,hbA];rfl);go_wp2_with fail
     have hl:=load_ver (set4 HR3.out (.int .i64 0) (.int .i64 0) (.int .i64 0) (.slice none 0 0));have HMz:=zh (HM3.out.set4 (b:=rb) (fun h=>by have:=HRB.out;omega) (.int .i64 0) (.int .i64 0) (.int .i64 0) (.slice none 0 0));exact bodyPost_ret (v:=.tuple #[verV ⟨0,0,0,[]⟩ (.slice none 0 0),.int .i64 60]) (by simp [results,results11,asAddr,hl]) rfl (fin hR ⟨.inl ⟨HN.out,rfl⟩,HMz.out⟩)
    rcases hbB:numB pB with _ | _
    ·have HN:=zh (show verOf l=none by rw [HV.out,hbB];simp);go_wp2_with fail
     have hl:=load_ver (set4 HR3.out (.int .i64 0) (.int .i64 0) (.int .i64 0) (.slice none 0 0));have HMz:=zh (HM3.out.set4 (b:=rb) (fun h=>by have:=HRB.out;omega) (.int .i64 0) (.int .i64 0) (.int .i64 0) (.slice none 0 0));exact bodyPost_ret (v:=.tuple #[verV ⟨0,0,0,[]⟩ (.slice none 0 0),.int .i64 60]) (by simp [results,results11,asAddr,hl]) rfl (fin hR ⟨.inl ⟨HN.out,rfl⟩,HMz.out⟩)
    rcases hbC:numB pC with _ | _
    ·have HN:=zh (show verOf l=none by rw [HV.out,hbC];simp);go_wp2_with fail
     have hl:=load_ver (set4 HR3.out (.int .i64 0) (.int .i64 0) (.int .i64 0) (.slice none 0 0));have HMz:=zh (HM3.out.set4 (b:=rb) (fun h=>by have:=HRB.out;omega) (.int .i64 0) (.int .i64 0) (.int .i64 0) (.slice none 0 0));exact bodyPost_ret (v:=.tuple #[verV ⟨0,0,0,[]⟩ (.slice none 0 0),.int .i64 60]) (by simp [results,results11,asAddr,hl]) rfl (fin hR ⟨.inl ⟨HN.out,rfl⟩,HMz.out⟩)
    obtain rfl:=HA.out hbA;obtain rfl:=HB.out hbB;obtain rfl:=HC.out hbC;have HN:=zh (show verOf l=some ⟨decV pA,decV pB,decV pC,pr⟩ by rw [HV.out,hbA,hbB,hbC,HPK.out,HPO.out];rfl);clear HV HA HB HC HCA HCB HCC hbA hbB hbC;generalize (decV pA:Int)=a at *;generalize (decV pB:Int)=b at *;generalize (decV pC:Int)=c at *;obtain ⟨⟨c0,c1,c2,c3⟩,f0,f1,f2,f3⟩:=cells4 HV3.out;go_upto_region 25 with fail
    have HV4:=zh (show (((w3.setCell ⟨vb,0,none⟩ (.int .i64 a)).setCell ⟨vb,1,none⟩ (.int .i64 b)).setCell ⟨vb,2,none⟩ (.int .i64 c)).heap[vb]? = some (.cells #[.int .i64 a,.int .i64 b,.int .i64 c,(.slice va pr.length vc)] 40 (0,0)) by rw [heap_setCell (heap_setCell (heap_setCell HV3.out _) _) _];rfl);have HM4':=zh (show Mod (fun p=>p=vb) w3 (((w3.setCell ⟨vb,0,none⟩ (.int .i64 a)).setCell ⟨vb,1,none⟩ (.int .i64 b)).setCell ⟨vb,2,none⟩ (.int .i64 c)) from ((Mod.cell1 w3 vb 0 (.int .i64 a)).setCell (p:=⟨vb,1,none⟩) (fun _=>rfl) _).setCell (p:=⟨vb,2,none⟩) (fun _=>rfl) _);generalize World.setCell _ ⟨vb,2,none⟩ _=w4 at *;have HM4:=zh (HM3.out.then HM4'.out (fun i hi e=>by have:=HVB.out;have:=HRB.out;omega));have HR4:=zh (HM4'.out.keep HR3.out (fun e=>by have:=HVB.out;omega));have HP4:=zh (HP3.out.keep HM4'.out (fun k cur fz hk _ hc=>by subst hk;rw [HV3.out] at hc;cases hc));clear c0 c1 c2 c3 f0 f1 f2 f3 d0 d1 d2 d3 g0 g1 g2 g3 HM3 HR3 HV3 HP3 HS3 HM4';obtain ⟨⟨c0,c1,c2,c3⟩,-⟩:=cells4 HV4.out;obtain ⟨⟨d0,d1,d2,d3⟩,g0,g1,g2,g3⟩:=cells4 HR4.out;go_wp2_with fail
    have hl:=load_ver (set4 HR4.out (.int .i64 a) (.int .i64 b) (.int .i64 c) (.slice va pr.length vc));have HMz:=zh (HM4.out.set4 (b:=rb) (fun h=>by have:=HRB.out;omega) (.int .i64 a) (.int .i64 b) (.int .i64 c) (.slice va pr.length vc));have HPz:=zh (HP4.out.keep (Mod.set4 (S:=fun p=>p=rb) (b:=rb) (Mod.refl _ w4) (fun _=>rfl) (.int .i64 a) (.int .i64 b) (.int .i64 c) (.slice va pr.length vc)) (fun k cur fz hk _ hc=>by subst hk;rw [HR4.out] at hc;cases hc));exact bodyPost_ret (v:=.tuple #[verV ⟨a,b,c,pr⟩ (.slice va pr.length vc),.int .i64 0]) (by simp [results,results11,asAddr,hl]) rfl (fin hR ⟨.inr ⟨_,_,HN.out,rfl,HPz.out⟩,HMz.out⟩)
   ·have h3i:((ps.length:Int) != 3)=true:=by simp;omega
    have HN:=zh (hv3 h3);clear hx1 hv3 h3v;obtain ⟨⟨d0,d1,d2,d3⟩,g0,g1,g2,g3⟩:=cells4 HR3.out;go_wp2_with fail
    have hl:=load_ver (set4 HR3.out (.int .i64 0) (.int .i64 0) (.int .i64 0) (.slice none 0 0));have HMz:=zh (HM3.out.set4 (b:=rb) (fun h=>by have:=HRB.out;omega) (.int .i64 0) (.int .i64 0) (.int .i64 0) (.slice none 0 0));exact bodyPost_ret (v:=.tuple #[verV ⟨0,0,0,[]⟩ (.slice none 0 0),.int .i64 60]) (by simp [results,results11,asAddr,hl]) rfl (fin hR ⟨.inl ⟨HN.out,rfl⟩,HMz.out⟩)
theorem nextV_pre (v:Ver) (p:Nat):(nextV v p).pre=[]:=by
 unfold nextV;split
 ·split <;> rfl
 ·split
  ·split <;> rfl
  ·split <;> rfl
theorem bytes_of_list {G:ByteArray} {l:List UInt8} (h:G.toList=l):G=⟨l.toArray⟩:=by
 rw [<- h,ByteArray.toList_eq]
theorem verOf_ok {l:List UInt8} {v:Ver} (h:verOf l=some v):VerOk v:=by
 match hs:splitC 46 (headC 45 l) with
 | [a,b,c] =>
  rw [verOf_three hs] at h;by_cases hc:(numB a && numB b && numB c && preOk l)=true
  ·rw [if_pos hc] at h;obtain rfl:=Option.some.inj h;simp only [Bool.and_eq_true] at hc;obtain ⟨⟨⟨h1,h2⟩,h3⟩,-⟩:=hc;have k:∀ x:List UInt8,numB x=true->0<=(decV x:Int)/\(decV x:Int)<=999999999:=fun x hx=>by
    have e:(digitsB x && decide (x.length<=9) && plainB x)=true:=hx;simp only [Bool.and_eq_true,decide_eq_true_eq] at e;obtain ⟨⟨d1,d2⟩,-⟩:=e;have d3:x.all dig=true:=by
     unfold digitsB at d1;simp only [Bool.and_eq_true] at d1;exact d1.1
    have:=decV_lt _ x rfl d3;have h10:10 ^ x.length<=10 ^ 9:=Nat.pow_le_pow_right (by omega) d2;omega
   exact ⟨k a h1,k b h2,k c h3⟩
  ·rw [if_neg hc] at h;cases h
 | []=>rw [verOf_len (by rw [hs];decide)] at h;cases h
 | [_]=>rw [verOf_len (by rw [hs];simp)] at h;cases h
 | [_,_]=>rw [verOf_len (by rw [hs];simp)] at h;cases h
 | _ :: _ :: _ :: _ :: _=>rw [verOf_len (by rw [hs];simp)] at h;cases h
theorem run_app_full {P:Program} {w:World} (t ty e:TypeId) (i:TypeInfo) (z:Value) (size bytes base:Nat) (ht:P.underlying t=some (.slice e)) (hi:P.info? e=some i) (hz:i.zero=some z)
  (hsize:i.size=size) (hby:i.bytes=bytes) (hzs:z.cells.size=size) (sv:Value) (n:Nat) (olds:List Value)
  (hcase:(sv=.slice none 0 0/\n=0/\olds=[])\/∃ a0,sv=.slice (some a0) n n/\olds.length=n*size/\∀ j v,olds[j]? = some v->w.cell? (a0.add j)=some v)
  (xa:Addr) (m c:Nat) (news:List Value) (hm:0 < m) (hl:news.length=m*size) (hnews:∀ j v,news[j]? = some v->w.cell? (xa.add j)=some v)
  (h63:n+m<=maxLen) (hbytes:(n+m)*bytes<=140737488355328) (hbase:base<=w.heap.size) :
  ∃ v' w',(Builtin.append_ #[t,t] ty #[sv,.slice (some xa) m c]).run P w=.ok v' w'/\w'.ownsRow base e size v' (n+m) (olds++news)/\Mod No w w':=by
 subst hsize;subst hby;have hol:olds.length=n*i.size:=by
  rcases hcase with ⟨-,rfl,rfl⟩ | ⟨a0,-,h,-⟩
  ·simp
  ·exact h
 have hlen:(olds++news).length=(n+m)*i.size:=by rw [List.length_append,hol,hl,Nat.add_mul]
 have grown:∀ (old:Nat),old < n+m →
   (w.drew.alloc (.cells (olds.toArray++news.toArray++Builtin.zeroCells z.cells (grownCap w (n+m) old e - (n+m))) e)).ownsRow base e i.size
    (.slice (some ⟨w.heap.size,0,none⟩) (n+m) (grownCap w (n+m) old e)) (n+m) (olds++news) ∧
   Mod No w (w.drew.alloc (.cells (olds.toArray++news.toArray++Builtin.zeroCells z.cells (grownCap w (n+m) old e - (n+m))) e)):=by
  intro old ho;have hge:=grownCap_ge w (n+m) old e;have hcm:grownCap w (n+m) old e<=maxLen:=grownCap_le_maxLen w (n+m) old e h63;refine ⟨⟨hlen,.inr ⟨w.heap.size,_,_,rfl,hbase,heap_alloc_new w.drew _,hge,hcm,?_,?_⟩⟩,((Mod.refl No w).drew).alloc _⟩
  ·simp only [Array.size_append,List.size_toArray,size_zeroCells,hzs,hol,hl,<- Nat.add_mul];congr 1
   omega
  ·simp only [Array.toList_append,List.append_assoc];rw [<- List.append_assoc,<- hlen];exact List.take_left
 have h63':((n+m:Nat):Int)<=9223372036854775807:=by unfold maxLen at h63;omega
 rcases hcase with ⟨rfl,rfl,rfl⟩ | ⟨a0,rfl,h1,h2⟩
 ·have hr:=run_append_nil (P:=P) w t ty e i z ht hi hz xa m c news hl hnews hm (by simpa using h63') (by have hb:=hbytes;simp only [Nat.zero_add] at hb;omega);have hgr:=grown 0 (by omega);simp only [Nat.zero_add,List.nil_append,Array.empty_append] at hgr ⊢;exact ⟨_,_,hr,hgr.1,hgr.2⟩
 ·have hr:=run_append_grow (P:=P) w t ty e i z ht hi hz a0 n n olds h1 h2 xa m c news hl hnews (by omega) h63' (growslice_fits (by omega) hbytes);have hgr:=grown n (by omega);exact ⟨_,_,hr,hgr.1,hgr.2⟩
theorem wp_app_full {P:Program} (w:World) {o:Oper} {a:Act} {K:Act->World->Prop} {Q:Exit->Act->World->Prop} (s x:Operand) (t:TypeId)
  (ho:o.op=.call { callee:=.builtin .append,args:=#[s,x],argTypes:=#[t,t] })
  (base:Nat) (e:TypeId) (i:TypeInfo) (z:Value) (size bytes:Nat) (ht:P.underlying t=some (.slice e)) (hi:P.info? e=some i) (hz:i.zero=some z)
  (hsize:i.size=size) (hby:i.bytes=bytes) (hzs:z.cells.size=size)
  (sv:Value) (n:Nat) (olds:List Value) (hs:a.eval s=sv)
  (hcase:(sv=.slice none 0 0/\n=0/\olds=[])\/∃ a0,sv=.slice (some a0) n n/\olds.length=n*size/\∀ j v,olds[j]? = some v->w.cell? (a0.add j)=some v)
  (xa:Addr) (m c:Nat) (news:List Value) (hx:a.eval x=.slice (some xa) m c) (hm:0 < m) (hl:news.length=m*size) (hnews:∀ j v,news[j]? = some v->w.cell? (xa.add j)=some v)
  (h63:n+m<=maxLen) (hbytes:(n+m)*bytes<=140737488355328) (hbase:base<=w.heap.size)
  (h:∀ v' w',w'.ownsRow base e size v' (n+m) (olds++news)->Mod No w w'->K (a.put o.dst v') w'):o.wp P a w K Q:=by
 obtain ⟨v',w',hr,h1,h2⟩:=run_app_full (P:=P) t o.type e i z size bytes base ht hi hz hsize hby hzs sv n olds hcase xa m c news hm hl hnews h63 hbytes hbase;unfold Oper.wp;simp only [execOp,ho,resolve,invoke,builtin,Sem.run_bind,Sem.run_pure,Result.andThen_ok,List.map_toArray,List.map_cons,List.map_nil,hs,hx,hr];exact h v' w' h1 h2
theorem wp_value {P:Program} {o:Oper} {a:Act} {w w':World} {K:Act->World->Prop} {Q:Exit->Act->World->Prop} {v:Value} (hr:(execOp a.eval o).run P w=.ok (.value v) w') (h:K (a.put o.dst v) w'):o.wp P a w K Q:=by
 unfold Oper.wp;rw [hr,Oper.upon_value];exact h
theorem yloadv {ty:TypeId} {a:Addr} {v:Value} {w:World} {o:Oper} {ρ:Operand->Value} (hl:(loadVar ty a).run prog w=.ok v w) (x:Operand) (ho:o.op=.load ty x) (hx:ρ x=.pointer (some a)) :
  (execOp ρ o).run prog w=.ok (.value v) w:=by
 unfold execOp;simp only [ho,hx,Instr.loadAt,Instr.sureAddr,Sem.run_bind,Sem.run_pure,Result.andThen_ok,hl]
structure RwOk (w:World) (x:RwX):Prop where
 sum:x.r.sum.length=32
 small:Small x.r.v
 pre:Sl w No 9 x.pv x.r.v.pre.length (strs x.r.v.pre)
 nv:∃ a m c,x.nv=.slice a m c
theorem nameB_ne {l:List UInt8} (h:l ≠ []):nameB l=(decide (l.length<=32) && smallB (l.getD 0 0) && l.all nameC):=by
 cases l with
 | nil=>exact absurd rfl h
 | cons c l=>rfl
theorem refname_any (l:List UInt8) (hl:l.length<=1000000) (w:World):Calls prog 12 #[strV l] w fun e w'=>e=.returned (.bool (nameB l))/\w'=w:=by
 refine calls_hide fun R hR=>?_
 have HX:=zh (run_at l);have HX0:=zh (show 0 < l.length->∀ W,(Instr.index 9 (.string ⟨l.toArray⟩) (.int .i64 0)).run prog W=.ok (.int .u8 ((l.getD 0 0).toNat:Int)) W from fun h W=>by
  rw [List.getD_eq_getElem?_getD,List.getElem?_eq_getElem h];exact run_at l 0 h W)
 have HZ:=zh (str_len3 l);unfold strV at *;generalize (⟨l.toArray⟩:ByteArray)=Z at *;have hZs:(Z.size:Int)=(l.length:Int):=by rw [HZ.out]
 go_enter func12,ntmps12
 by_cases h0:l=[]
 ·subst h0;have h00:(([]:List UInt8).length:Int) < 1:=by decide
  go_wp2_with fail
  refine fin hR ⟨bool_ret ?_,rfl⟩
  rfl
 have HNB:=zh (nameB_ne h0);have hn1:0 < l.length:=List.length_pos_iff.2 h0;have hn2:¬ (l.length:Int) < 1:=by omega
 by_cases h32:(32:Int) < (l.length:Int)
 ·go_wp2_with fail
  refine fin hR ⟨bool_ret ?_,rfl⟩
  rw [HNB.out,decide_eq_false (by omega:¬ l.length<=32)];rfl
 have hidx0:=HX0.out hn1;have HS0:=zh (show smallB (l.getD 0 0)=(decide (97<=(l.getD 0 0).toNat) && decide ((l.getD 0 0).toNat<=122)) from rfl);have HNC:=zh (show nameB l=(smallB (l.getD 0 0) && l.all nameC) by
  rw [HNB.out,decide_eq_true (by omega:l.length<=32)];rfl)
 clear HNB HX0;generalize smallB (l.getD 0 0)=s0 at *;generalize (l.getD 0 0).toNat=x0 at *;by_cases h97:(x0:Int) < 97
 ·go_wp2_with fail
  refine fin hR ⟨bool_ret ?_,rfl⟩
  rw [HNC.out,HS0.out,decide_eq_false (by omega:¬ 97<=x0)];rfl
 by_cases h122:(122:Int) < (x0:Int)
 ·go_wp2_with fail
  refine fin hR ⟨bool_ret ?_,rfl⟩
  rw [HNC.out,HS0.out,decide_eq_false (by omega:¬ x0<=122),Bool.and_false];rfl
 have HND:=zh (show nameB l=l.all nameC by
  rw [HNC.out,HS0.out,decide_eq_true (by omega:97<=x0),decide_eq_true (by omega:x0<=122)];rfl)
 clear HNC HS0;go_wp2_with fail
 clear hidx0;go_loopw [3] (fun q wr=>∃ k:Nat,k<=l.length/\q=.int .i64 k/\wr=w/\∀ i (hi:i < l.length),i < k->nameC l[i]=true) (fun q _=>l.length - (intOf q).toNat)
 case atStart=>exact ⟨0,by omega,rfl,rfl,fun i _ hi=>absurd hi (by omega)⟩
 case round =>
  obtain ⟨k,hk,rfl,rfl,hall⟩:=hrel;have hk0:(0:Int)<=(k:Int):=Int.natCast_nonneg _;by_cases hlt:k < l.length
  ·have hk1:(k:Int) < (Z.size:Int):=by omega
   have hidx:=HX.out k hlt;have HN:=zh (fun h=>all_take_succ (p:=nameC) hlt hall h);have HF:=zh (fun h=>not_all (p:=nameC) hlt h);have HS:=zh (show nameC l[k]=((decide (97<=l[k].toNat) && decide (l[k].toNat<=122)) || (decide (48<=l[k].toNat) && decide (l[k].toNat<=57)) || decide (l[k].toNat=45)) from rfl);generalize nameC l[k]=sg at *;generalize l[k].toNat=x at *;clear hall;rcases (show (97<=x/\x<=122)\/(122 < x)\/(57 < x/\x < 97)\/(48<=x/\x<=57)\/x=45\/(x < 48/\x ≠ 45) by omega) with h | h | h | h | h | h
   ·have a1:(97:Int)<=(x:Int):=by omega
    have a2:(x:Int)<=122:=by omega
    have hn:=HN.out (by rw [HS.out];simp;omega);have HN2:=zh hn;clear hn;go_wp2_with fail
    exact ⟨⟨k+1,by omega,rfl,trivial,HN2.out⟩,by show l.length - ((k:Int)+1).toNat < l.length - (k:Int).toNat;omega⟩
   ·have a1:(97:Int)<=(x:Int):=by omega
    have a2:¬ (x:Int)<=122:=by omega
    have a3:(48:Int)<=(x:Int):=by omega
    have a4:¬ (x:Int)<=57:=by omega
    have a5:((x:Int) == 45)=false:=by rw [beq_eq_false_iff_ne];omega
    have HF2:=zh (HF.out (by rw [HS.out,<- Bool.not_eq_true];simp;omega));go_wp2_with fail
    refine fin hR ⟨bool_ret ?_,rfl⟩
    rw [HND.out,HF2.out]
   ·have a1:¬ (97:Int)<=(x:Int):=by omega
    have a3:(48:Int)<=(x:Int):=by omega
    have a4:¬ (x:Int)<=57:=by omega
    have a5:((x:Int) == 45)=false:=by rw [beq_eq_false_iff_ne];omega
    have HF2:=zh (HF.out (by rw [HS.out,<- Bool.not_eq_true];simp;omega));go_wp2_with fail
    refine fin hR ⟨bool_ret ?_,rfl⟩
    rw [HND.out,HF2.out]
   ·have a1:¬ (97:Int)<=(x:Int):=by omega
    have a3:(48:Int)<=(x:Int):=by omega
    have a4:(x:Int)<=57:=by omega
    have hn:=HN.out (by rw [HS.out];simp;omega);have HN2:=zh hn;clear hn;go_wp2_with fail
    exact ⟨⟨k+1,by omega,rfl,trivial,HN2.out⟩,by show l.length - ((k:Int)+1).toNat < l.length - (k:Int).toNat;omega⟩
   ·have a1:¬ (97:Int)<=(x:Int):=by omega
    have a3:¬ (48:Int)<=(x:Int):=by omega
    have a5:((x:Int) == 45)=true:=by simp;omega
    have hn:=HN.out (by rw [HS.out];simp;omega);have HN2:=zh hn;clear hn;go_wp2_with fail
    exact ⟨⟨k+1,by omega,rfl,trivial,HN2.out⟩,by show l.length - ((k:Int)+1).toNat < l.length - (k:Int).toNat;omega⟩
   ·have a1:¬ (97:Int)<=(x:Int):=by omega
    have a3:¬ (48:Int)<=(x:Int):=by omega
    have a5:((x:Int) == 45)=false:=by rw [beq_eq_false_iff_ne];omega
    have HF2:=zh (HF.out (by rw [HS.out,<- Bool.not_eq_true];simp;omega));go_wp2_with fail
    refine fin hR ⟨bool_ret ?_,rfl⟩
    rw [HND.out,HF2.out]
  ·have HA:=zh (all_of (p:=nameC) (by omega) hall);clear hall;go_wp2_with fail
   refine fin hR ⟨bool_ret ?_,rfl⟩
   rw [HND.out,HA.out]
theorem small_any (c:UInt8) (w:World):Calls prog 154 #[.int .u8 (c.toNat:Int)] w fun e w'=>e=.returned (.bool (smallB c))/\w'=w:=by
 refine calls_hide fun R hR=>?_
 have HS:=zh (show smallB c=(decide (97<=c.toNat) && decide (c.toNat<=122)) from rfl);generalize smallB c=s at *;generalize c.toNat=x at *;go_enter func154,ntmps154
 by_cases h97:(97:Int)<=(x:Int)
 ·go_wp2_with fail
  refine fin hR ⟨bool_ret ?_,rfl⟩
  rw [HS.out,decide_eq_true (by omega:97<=x)];simp
  omega
 ·go_wp2_with fail
  refine fin hR ⟨bool_ret ?_,rfl⟩
  rw [HS.out,decide_eq_false (by omega:¬ 97<=x)];simp
theorem name_any (l:List UInt8) (hl:l.length<=1000000) (w:World):Calls prog 100 #[strV l] w fun e w'=>e=.returned (.bool (nameB l))/\w'=w:=by
 refine calls_hide fun R hR=>?_
 have HX:=zh (run_at l);have HX0:=zh (show 0 < l.length->∀ W,(Instr.index 9 (.string ⟨l.toArray⟩) (.int .i64 0)).run prog W=.ok (.int .u8 ((l.getD 0 0).toNat:Int)) W from fun h W=>by
  rw [List.getD_eq_getElem?_getD,List.getElem?_eq_getElem h];exact run_at l 0 h W)
 have HZ:=zh (str_len3 l);have HSM:=zh small_any;have hT:=str_list l;unfold strV at *;generalize (⟨l.toArray⟩:ByteArray)=Z at *;have hZs:(Z.size:Int)=(l.length:Int):=by rw [HZ.out]
 go_enter func100,ntmps100
 by_cases h0:l=[]
 ·subst h0;have h00:([]:List UInt8).isEmpty=true:=rfl;go_wp2_with fail
  refine fin hR ⟨bool_ret ?_,rfl⟩
  rfl
 have HNB:=zh (nameB_ne h0);have hie:l.isEmpty=false:=by simpa using h0
 have hn1:0 < l.length:=List.length_pos_iff.2 h0;by_cases h32:(32:Int) < (l.length:Int)
 ·go_wp2_with fail
  refine fin hR ⟨bool_ret ?_,rfl⟩
  rw [HNB.out,decide_eq_false (by omega:¬ l.length<=32)];rfl
 have hidx0:=HX0.out hn1;have HNC:=zh (show nameB l=(smallB (l.getD 0 0) && l.all nameC) by
  rw [HNB.out,decide_eq_true (by omega:l.length<=32)];rfl)
 clear HNB HX0;generalize l.getD 0 0=z0 at *;have HS0:=zh (HSM.out z0);go_wp2_with fail
 with_reducible refine (HS0.out _).mono ?_
 rintro e wB ⟨rfl,rfl⟩;rcases hs0:smallB z0 with _ | _
 ·go_wp2_with fail
  refine fin hR ⟨bool_ret ?_,rfl⟩
  rw [HNC.out,hs0];rfl
 have HND:=zh (show nameB l=l.all nameC by rw [HNC.out,hs0];rfl);clear HNC HS0 hs0;go_wp2_with fail
 clear hidx0;go_loopw [20] (fun q wr=>∃ k:Nat,k<=l.length/\q=.int .i64 k/\wr=wB/\∀ i (hi:i < l.length),i < k->nameC l[i]=true) (fun q _=>l.length - (intOf q).toNat)
 case atStart=>exact ⟨0,by omega,rfl,rfl,fun i _ hi=>absurd hi (by omega)⟩
 case round =>
  obtain ⟨k,hk,rfl,rfl,hall⟩:=hrel;have hk0:(0:Int)<=(k:Int):=Int.natCast_nonneg _;by_cases hlt:k < l.length
  ·have hk1:(k:Int) < (Z.size:Int):=by omega
   have hidx:=HX.out k hlt;have HN:=zh (fun h=>all_take_succ (p:=nameC) hlt hall h);have HF:=zh (fun h=>not_all (p:=nameC) hlt h);have HS:=zh (show nameC l[k]=(smallB l[k] || (decide (48<=l[k].toNat) && decide (l[k].toNat<=57)) || decide (l[k].toNat=45)) from rfl);have HSK:=zh (HSM.out l[k]);generalize nameC l[k]=sg at *;generalize smallB l[k]=sk at *;generalize l[k].toNat=x at *;clear hall;go_wp2_with fail
   with_reducible refine (HSK.out _).mono ?_
   rintro e w2 ⟨rfl,rfl⟩;rcases sk with _ | _
   ·rcases (show (57 < x)\/(48<=x/\x<=57)\/x=45\/(x < 48/\x ≠ 45) by omega) with h | h | h | h
    ·have a3:(48:Int)<=(x:Int):=by omega
     have a4:¬ (x:Int)<=57:=by omega
     have a5:((x:Int) == 45)=false:=by rw [beq_eq_false_iff_ne];omega
     have HF2:=zh (HF.out (by rw [HS.out,<- Bool.not_eq_true];simp;omega));go_wp2_with fail
     refine fin hR ⟨bool_ret ?_,rfl⟩
     rw [HND.out,HF2.out]
    ·have a3:(48:Int)<=(x:Int):=by omega
     have a4:(x:Int)<=57:=by omega
     have hn:=HN.out (by rw [HS.out];simp;omega);have HN2:=zh hn;clear hn;go_wp2_with fail
     exact ⟨⟨k+1,by omega,rfl,trivial,HN2.out⟩,by show l.length - ((k:Int)+1).toNat < l.length - (k:Int).toNat;omega⟩
    ·have a3:¬ (48:Int)<=(x:Int):=by omega
     have a5:((x:Int) == 45)=true:=by simp;omega
     have hn:=HN.out (by rw [HS.out];simp;omega);have HN2:=zh hn;clear hn;go_wp2_with fail
     exact ⟨⟨k+1,by omega,rfl,trivial,HN2.out⟩,by show l.length - ((k:Int)+1).toNat < l.length - (k:Int).toNat;omega⟩
    ·have a3:¬ (48:Int)<=(x:Int):=by omega
     have a5:((x:Int) == 45)=false:=by rw [beq_eq_false_iff_ne];omega
     have HF2:=zh (HF.out (by rw [HS.out,<- Bool.not_eq_true];simp;omega));go_wp2_with fail
     refine fin hR ⟨bool_ret ?_,rfl⟩
     rw [HND.out,HF2.out]
   ·have hn:=HN.out (by rw [HS.out];rfl);have HN2:=zh hn;clear hn;go_wp2_with fail
    exact ⟨⟨k+1,by omega,rfl,trivial,HN2.out⟩,by show l.length - ((k:Int)+1).toNat < l.length - (k:Int).toNat;omega⟩
  ·have HA:=zh (all_of (p:=nameC) (by omega) hall);clear hall;go_wp2_with fail
   refine fin hR ⟨bool_ret ?_,rfl⟩
   rw [HND.out,HA.out]
end Go.Proofs.YticfcmdjplmaeaaGreatDoor
