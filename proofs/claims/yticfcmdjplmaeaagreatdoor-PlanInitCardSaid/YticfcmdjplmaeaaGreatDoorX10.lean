/-
  Layers 0 to 14: helps of the laws of indexes. No statement is proved here; no condition.
-/
import Derived.Test.YticfcmdjplmaeaaGreatDoorX03
import Derived.Test.YticfcmdjplmaeaaGreatDoorX01
import Derived.Test.YticfcmdjplmaeaaGreatDoorX00
import Derived.Test.YticfcmdjplmaeaaGreatDoorX02
set_option maxRecDepth 100000
set_option maxHeartbeats 64000000
namespace Go.Proofs.YticfcmdjplmaeaaGreatDoor
open _root_.Go.Proofs.Tryz
open Go.RowKit
theorem hasprefix_lite (l p:List UInt8) (w:World):Calls prog 259 #[strV l,strV p] w fun e w'=>e=.returned (.bool (decide (l.take p.length=p)))/\w'=w:=by
 refine calls_hide fun R hR=>?_
 have HEX:=zh (str_to l p.length);have HZ:=zh (str_len3 l);have HP:=zh (str_len3 p);have hTP:=str_list p;have hTT:=str_list (l.take p.length);unfold strV at *;generalize (⟨l.toArray⟩:ByteArray)=Z at *;generalize (⟨p.toArray⟩:ByteArray)=Q at *;have hZs:(Z.size:Int)=(l.length:Int):=by rw [HZ.out]
 have hQs:(Q.size:Int)=(p.length:Int):=by rw [HP.out]
 go_enter func259,ntmps259
 by_cases h:p.length<=l.length
 ·have h1:(p.length:Int)<=(l.length:Int):=by omega
  have h0:(0:Int)<=(p.length:Int):=Int.natCast_nonneg _;have hext:=HEX.out;go_wp2_with fail
  refine fin hR ⟨bool_ret ?_,rfl⟩
  first
   | rfl
   |(by_cases hh:l.take p.length=p
     ·rw [decide_eq_true hh,hh];simp
     ·rw [decide_eq_false hh];simpa using hh)
 ·have h1:¬ (p.length:Int)<=(l.length:Int):=by omega
  have HF:=zh (show decide (l.take p.length=p)=false from decide_eq_false fun e=>h (by
   have:=congrArg List.length e;rw [List.length_take] at this;omega))
  go_wp2_with fail
  refine fin hR ⟨bool_ret ?_,rfl⟩
  rw [HF.out]
theorem hasprefix_any (l p:List UInt8) (w:World):Calls prog 269 #[strV l,strV p] w fun e w'=>e=.returned (.bool (decide (l.take p.length=p)))/\w'=w:=by
 refine calls_hide fun R hR=>?_
 have HL:=zh (hasprefix_lite l p);unfold strV at *;generalize (⟨l.toArray⟩:ByteArray)=Z at *;generalize (⟨p.toArray⟩:ByteArray)=Q at *;go_enter func269,ntmps269
 go_wp2_with fail
 with_reducible refine (HL.out _).mono ?_
 rintro e w1 ⟨rfl,rfl⟩;go_wp2_with fail
 exact fin hR ⟨rfl,rfl⟩
def signs:List (List UInt8):=[[60,61],[62,61],[60],[62],[61],[94],[126]]
theorem sign_hit {l:List UInt8}:∀ k:Fin 7,(∀ i:Fin 7,i.1 < k.1->l.take (signs.getD i.1 []).length ≠ signs.getD i.1 [])->l.take (signs.getD k.1 []).length=signs.getD k.1 []->signL l=signs.getD k.1 []:=by
 intro k h1 h2;have g:=fun (i:Nat) (hi:i < 7)=>h1 ⟨i,hi⟩
 obtain ⟨k,hk⟩:=k;unfold signL;match k,hk with
 | 0,_=>rw [if_pos (.inl h2)];exact h2
 | 1,_=>rw [if_pos (.inr h2)];exact h2
 | 2,_ =>
  rw [if_neg (by rintro (h | h);exact g 0 (by omega) (Nat.le_of_ble_eq_true rfl) h;exact g 1 (by omega) (Nat.le_of_ble_eq_true rfl) h),if_pos (.inl h2)];exact h2
 | 3,_ =>
  rw [if_neg (by rintro (h | h);exact g 0 (by omega) (Nat.le_of_ble_eq_true rfl) h;exact g 1 (by omega) (Nat.le_of_ble_eq_true rfl) h),if_pos (.inr (.inl h2))];exact h2
 | 4,_ =>
  rw [if_neg (by rintro (h | h);exact g 0 (by omega) (Nat.le_of_ble_eq_true rfl) h;exact g 1 (by omega) (Nat.le_of_ble_eq_true rfl) h),if_pos (.inr (.inr (.inl h2)))];exact h2
 | 5,_ =>
  rw [if_neg (by rintro (h | h);exact g 0 (by omega) (Nat.le_of_ble_eq_true rfl) h;exact g 1 (by omega) (Nat.le_of_ble_eq_true rfl) h),if_pos (.inr (.inr (.inr (.inl h2))))];exact h2
 | 6,_ =>
  rw [if_neg (by rintro (h | h);exact g 0 (by omega) (Nat.le_of_ble_eq_true rfl) h;exact g 1 (by omega) (Nat.le_of_ble_eq_true rfl) h),if_pos (.inr (.inr (.inr (.inr h2))))];exact h2
theorem sign_none {l:List UInt8} (h:∀ i:Fin 7,l.take (signs.getD i.1 []).length ≠ signs.getD i.1 []):signL l=[]:=by
 unfold signL;rw [if_neg,if_neg]
 ·rintro (h1 | h1 | h1 | h1 | h1)
  ·exact h 2 h1
  ·exact h 3 h1
  ·exact h 4 h1
  ·exact h 5 h1
  ·exact h 6 h1
 ·rintro (h1 | h1)
  ·exact h 0 h1
  ·exact h 1 h1
theorem signed_any (l:List UInt8) (w:World):Calls prog 227 #[strV l] w fun e w'=>e=.returned (.tuple #[strV (signL l),strV (l.drop (signL l).length)])/\Mod No w w':=by
 refine calls_hide fun R hR=>?_
 have HHP:=zh (hasprefix_any l);have HEF:=zh (str_from l);have HZ:=zh (str_len3 l);have HPL:=zh str_len3;unfold strV at *;have hZe:(⟨l.toArray⟩:ByteArray)=⟨(l.drop 0).toArray⟩:=by rw [List.drop_zero]
 have HZE:=zh hZe;clear hZe;generalize (⟨l.toArray⟩:ByteArray)=Z at *;have hZs:(Z.size:Int)=(l.length:Int):=by rw [HZ.out]
 go_enter func227,ntmps227
 go_upto_region 2 with fail
 obtain ⟨g,hg⟩:∃ g,g=w.heap.size:=⟨_,rfl⟩
 rw [<- hg];generalize hw1:World.alloc w _=w1;have HM1:=zh (show Mod No w w1 by rw [<- hw1];exact (Mod.refl No w).alloc _);have HSL:=zh (show Sl w1 No 9 (.slice (some ⟨g,0,none⟩) 7 7) 7 (strs signs) by
  rw [<- hw1,hg];exact Sl.of_own (own_alloc (w:=w) (e:=9) (xs:=strs signs) (by decide)) (fun _ _ f=>f))
 clear hw1 hg;go_wp2_with fail
 go_loopw [8] (fun q wr=>∃ k:Nat,k<=7/\q=.int .i64 k/\wr=w1/\∀ i:Fin 7,i.1 < k->l.take (signs.getD i.1 []).length ≠ signs.getD i.1 []) (fun q _=>7 - (intOf q).toNat)
 case atStart=>exact ⟨0,by omega,rfl,rfl,fun i hi=>absurd hi (by omega)⟩
 case round =>
  obtain ⟨k,hk,rfl,rfl,hno⟩:=hrel;have hk0:(0:Int)<=(k:Int):=Int.natCast_nonneg _;by_cases hlt:k < 7
  ·have hk1:(k:Int) < 7:=by omega
   have hcell:wr.cell? ⟨g,k,none⟩=some (.string ⟨(signs.getD k []).toArray⟩):=by
    have hl:k < (strs signs).length:=hlt;have:=HSL.out.cellN (i:=k) hl;rw [Nat.zero_add] at this;rw [this];have h2:signs.getD k []=signs[k]'hlt:=by rw [List.getD_eq_getElem?_getD,List.getElem?_eq_getElem (show k < signs.length from hlt)];rfl
    rw [h2];simp [strs,strV]
    rfl
   have HHIT:=zh (show l.take (signs.getD k []).length=signs.getD k []->signL l=signs.getD k [] from fun h=>sign_hit ⟨k,hlt⟩ hno h);have HN:=zh (show l.take (signs.getD k []).length ≠ signs.getD k []->∀ i:Fin 7,i.1 < k+1->l.take (signs.getD i.1 []).length ≠ signs.getD i.1 [] from fun h i hi=>by
    rcases Nat.lt_or_ge i.1 k with h3 | h3
    ·exact hno i h3
    ·have:i.1=k:=by omega
     rw [this];exact h)
   clear hno;generalize signs.getD k []=x at *;go_wp2_with fail
   with_reducible refine (HHP.out x _).mono ?_
   rintro e w2 ⟨rfl,rfl⟩;by_cases hb:l.take x.length=x
   ·rw [decide_eq_true hb];have hxl:x.length<=l.length:=by
     have:=congrArg List.length hb;rw [List.length_take] at this;omega
    have hx1:(x.length:Int)<=(Z.size:Int):=by omega
    have hx0:(0:Int)<=(x.length:Int):=Int.natCast_nonneg _;have hext:=HEF.out x.length;have hxs:((⟨x.toArray⟩:ByteArray).size:Int)=(x.length:Int):=by rw [HPL.out]
    have HSG:=zh (HHIT.out hb);clear HHIT HN hb;go_upto_region 5 with fail
    go_quiet (fail)
    go_wp2_with fail
    exact fin hR ⟨(by rw [HSG.out];try rfl),HM1.out.drewN _⟩
   ·rw [decide_eq_false hb];have HN2:=zh (HN.out hb);clear HHIT HN hb;go_wp2_with fail
    exact ⟨⟨k+1,by omega,rfl,trivial,HN2.out⟩,by show 7 - ((k:Int)+1).toNat < 7 - (k:Int).toNat;omega⟩
  ·have HNO:=zh (sign_none (l:=l) (fun i=>hno i (by omega)));clear hno;go_wp2_with fail
   refine fin hR ⟨?_,HM1.out⟩
   rw [HNO.out];show _=Ending.returned (.tuple #[.string ⟨#[]⟩,.string ⟨(l.drop 0).toArray⟩])
   rw [<- HZE.out];rfl
structure PnS (w:World) (x:PnX):Prop where
 sum:x.p.sum.length=32
 small:Small x.p.v
 pre:SvX w No x.pv x.p.v.pre.length (strs x.p.v.pre)
theorem PnS.keep {w w':World} {x:PnX} (h:PnS w x) (hm:Mod No w w'):PnS w' x:=⟨h.sum,h.small,h.pre.kn hm⟩
theorem refturn_any (x:Int) (n:Nat) (hn:n < 32) (h0:0 < n) (w:World) :
  Calls prog 131 #[.int .u32 x,.int .i64 (n:Int)] w fun e w'=>e=.returned (.int .u32 (rotR n x))/\Mod No w w':=by
 refine calls_hide fun R hR=>?_
 have hn0:(0:Int) < (n:Int):=by omega
 have hn1:(n:Int) < 32:=by omega
 obtain ⟨m,hm⟩:∃ m,m=32 - n:=⟨_,rfl⟩
 have hmI:(32:Int) - (n:Int)=(m:Int):=by omega
 have hm0:(0:Int)<=(m:Int):=Int.natCast_nonneg _;have hm1:(m:Int) < 32:=by omega
 have HM:=zh hm;clear hm;go_enter func131,ntmps131
 go_wp2_with fail
 go_quiet (fail)
 go_wp2_with fail
 exact fin hR ⟨by unfold rotR;rw [<- HM.out];rfl,(Mod.refl No w).drewN _⟩
theorem table_any (w:World) :
  Calls prog 129 #[] w fun e w'=>e=.returned (.agg (c8 k0))/\Mod No w w':=by
 refine calls_hide fun R hR=>?_
 go_enter func129,ntmps129
 go_upto_region 1 with fail
 rename_i K hK;have HK:=zh hK;clear hK;refine wp_region_lit ?_;refine wpList_builtAs rfl 232 _ rfl (c8 k0) (by kernel_rfl) ?_;refine wpList_store_row rfl 232 _ _ rfl w.heap.size (c8 k0) rfl rfl 232 _ (heap_alloc_new w _) (by kernel_rfl) (by kernel_rfl) (by kernel_rfl) ?_;refine HK.out _ _ ?_;refine wp_ret ?_;exact bodyPost_ret (results_cell_row rfl _ _ w.heap.size 232 (c8 k0) (0,0) _ rfl (setRow_heap _ _ _ _ _ _ (heap_alloc_new w _)) underlying232 (by kernel_rfl) (by kernel_rfl)) rfl (fin hR ⟨rfl,(Mod.alloc (Mod.refl No w) _).then (T:=fun p=>p=w.heap.size) ⟨rfl,rfl,rfl,by simp [World.setRow],fun k hk hn=>setRow_other _ _ k _ hn⟩ (fun i hi e=>absurd hi (by omega))⟩)
noncomputable def bodyP:Code:=Tryz.f130.body.getD .skip
noncomputable def blkP0:Code:=(blockAt 0 bodyP).getD .skip
theorem lit34 (t:Array Value) (h:t.size=34):∃ c:Nat->Value,t=#[c 0,c 1,c 2,c 3,c 4,c 5,c 6,c 7,c 8,c 9,c 10,c 11,c 12,c 13,c 14,c 15,c 16,c 17,c 18,c 19,c 20,c 21,c 22,c 23,c 24,c 25,c 26,c 27,c 28,c 29,c 30,c 31,c 32,c 33]/\∀ i,t.getD i undef=c i:=by
 refine ⟨fun i=>t.getD i undef,?_,fun _=>rfl⟩
 have h1:=arr_lits t;rw [h] at h1;exact h1.trans (by kernel_rfl)
def LpZ (w0:World) (base:Nat) (l:List UInt8) (z:Nat) (v0:Value) (k:Nat) (a:Act) (w:World):Prop :=
 ∃ j v,j+k=z/\Mod (fun p=>base<=p) w0 w/\base<=w.heap.size/\w.ownsRow base 5 1 v (l.length+1+j) (bv (l++128 :: List.replicate j 0))/\Fr 34 [(0,v0),(3,v)] a
theorem zeros_any (base:Nat) (l:List UInt8) (v0 v:Value) (f:Act) (w:World) (hl:l.length<=70368744177664) (hb:base<=w.heap.size) (hv:w.ownsRow base 5 1 v (l.length+1) (bv (l++[128])))
  (hF:Fr 34 [(0,v0),(3,v)] f) :
  Code.wp prog blkP0 (Exit.then (fun a' w'=>(∃ v',Fr 34 [(0,v0),(3,v')] a'/\w'.ownsRow base 5 1 v' (l.length+1+(64*lastN l - 9 - l.length % 64)) (bv (l++128 :: List.replicate (64*lastN l - 9 - l.length % 64) 0)))/\base<=w'.heap.size/\Mod (fun p=>base<=p) w w') Nope) f w:=by
 refine wp_part fun J K' hJ hK=>?_
 obtain ⟨i0,hi,hz0,hz1,hz2⟩:=info_parts info_byte;have HI:=zh (And.intro hi (And.intro hz0 (And.intro hz1 hz2)));clear hi hz0 hz1 hz2;obtain ⟨z,hz⟩:∃ z,z=64*lastN l - 9 - l.length % 64:=⟨_,rfl⟩
 rw [<- hz] at hJ;have H0:=zh (show LpZ w base l z v0 z f w from ⟨0,v,by omega,Mod.refl _ w,hb,hv,hF⟩);have HJ:=zh hJ;obtain ⟨w0,hw0⟩:∃ w0,w0=w:=⟨_,rfl⟩
 rw [<- hw0] at HJ H0;clear hF hJ hv;have hmod:∀ j,j<=z->((l.length+1+j) % 64=56 ↔ j=z):=fun j hj=>by
  have h1:=lastN_le l;have h2:lastN l=if 64 < l.length % 64+9 then 2 else 1:=rfl
  split at h2 <;> omega
 have HMO:=zh hmod;clear hmod;have hz64:z<=128:=by have:=lastN_le2 l;omega
 clear hz;conv=>arg 2;whnf
 go_step
 refine wp_loop_ghost_k (LpZ w0 base l z v0) z (by rw [hw0] at H0 ⊢;exact H0.out) ?_;clear H0 hw0 hb f w v;intro k f w hI J2 K2 hJ2 hK2;have HJ2:=zh hJ2;obtain ⟨j,v,hjk,hmod,hb,hown,hF⟩:=hI;have HO:=zh hown;have HM:=zh hmod;have HB:=zh hb;obtain ⟨n,hn⟩:∃ n,n=l.length+1+j:=⟨_,rfl⟩
 rw [<- hn] at HO hown;obtain ⟨va,vc,rfl⟩:=(Sl.of_own hown (X:=No) (fun _ _ f=>f)).len;clear hJ2 hmod hb hown;obtain ⟨ts,ds⟩:=f;obtain ⟨hsz,hds,hs0,hs3,-⟩:=hF;dsimp only at hsz hds hs0 hs3;subst hds;obtain ⟨c,rfl,hc⟩:=lit34 ts hsz;rw [hc] at hs0;rw [hc] at hs3;simp only [hs0,hs3];clear hc hsz hs0 hs3;have hn0:(0:Int)<=(n:Int):=Int.natCast_nonneg _;obtain ⟨r,hr⟩:∃ r,r=n % 64:=⟨_,rfl⟩
 have q1:(n:Int) % 64=(r:Int):=by omega
 have q2:Int.tmod (n:Int) 64=(r:Int):=by rw [Int.tmod_eq_emod_of_nonneg hn0];exact q1
 have hmj:=HMO.out j (by omega);rw [<- hn,<- hr] at hmj;have HN:=zh (And.intro hn hr);clear hn hr;by_cases hi:j < z
 ·have hr56:¬ ((r:Int)=56):=by omega
  obtain ⟨w1,hw1⟩:∃ w1,w1=w.alloc (.cells #[.int .u8 0] 5):=⟨_,rfl⟩
  have hm1:Mod No w w1:=by rw [hw1];exact (Mod.refl No w).alloc _
  have hg1:w1.heap[w.heap.size]? = some (.cells #[.int .u8 0] 5 (0,0)):=by rw [hw1];exact heap_alloc_new w _
  have HS:=zh (show Sl w1 No 5 (.slice (some ⟨w.heap.size,0,none⟩) 1 1) 1 [.int .u8 0] from .inr ⟨w.heap.size,0,1,_,_,rfl,Nat.le_refl _,by unfold maxLen;omega,fun f=>f,hg1,by simp,fun i hi=>by simp at hi;subst hi;rfl⟩);have HO1:=zh (own_keepM HO.out hm1 (fun _ _ f=>f));have HB1:=zh (Nat.le_trans HB.out hm1.size);have HM1:=zh hm1;have HW1:=zh hw1;obtain ⟨hi,hz0,hz1,hz2⟩:=HI.out;have HNL:=zh (show n+1<=140737488355328 by have:=HN.out.1;omega);clear hm1 hg1 hw1 hmj;go_wp2_with (rw [<- HW1.out];at_builtin;refine app_sl _ rfl _ _ 76 rfl base 5 i0 (.int .u8 0) 1 1 underlying76 hi hz0 hz1 hz2 rfl (by decide) (.slice va n vc) n _ rfl HO1.out No 5 _ 1 [.int .u8 0] rfl HS.out rfl (by simp [Value.oneCell']) (by have:=HNL.out;unfold maxLen;omega) (by have:=HNL.out;omega) HB1.out ?_;intro v3 w3 hown hg hiff;have HO3:=zh (And.intro hown hg);clear hown hg hiff)
  have hm3:Mod (fun p=>base<=p) w1 w3:=Mod.of_grown HO3.out.2 (fun k e _=>(HO1.out.lt _ e).1);have hmm:Mod (fun p=>base<=p) w0 w3:=HM.out.trans ((HM1.out.weaken fun _ _ f=>f.elim:Mod (fun p=>base<=p) w w1).trans hm3);exact Handed.intro (k - 1) (by omega) (HJ2.out _ _ _ ⟨j+1,v3,by omega,hmm,Nat.le_trans HB1.out hm3.size,by
   have h1:=HO3.out.1;rw [show l.length+1+(j+1)=n+1 by have:=HN.out.1;omega,List.replicate_succ',<- List.cons_append,<- List.append_assoc,bv_append];exact h1,rfl,rfl,rfl,rfl,trivial⟩)
 ·have hjz:j=z:=by omega
  have hr56:(r:Int)=56:=by omega
  have HOZ:=zh (show w.ownsRow base 5 1 (.slice va n vc) (l.length+1+z) (bv (l++128 :: List.replicate z 0)) by rw [<- hjz,<- HN.out.1];exact HO.out);clear hmj;go_wp2_with fail
  exact Met.intro (HJ.out _ _ ⟨⟨_,⟨rfl,rfl,rfl,rfl,trivial⟩,HOZ.out⟩,HB.out,HM.out⟩)
noncomputable def blkP2:Code:=(blockAt 2 bodyP).getD .skip
def LpB2 (w0:World) (base:Nat) (xs:List UInt8) (n:Nat) (v0:Value) (k:Nat) (a:Act) (w:World):Prop :=
 ∃ j v,j+k=8/\Mod (fun p=>base<=p) w0 w/\base<=w.heap.size/\w.ownsRow base 5 1 v (xs.length+j) (bv (xs++lenBytes n j))/\Fr 34 [(0,v0),(3,v),(4,.int .u64 (n:Int)),(5,.int .i64 (7 - (j:Int)))] a
theorem padlens_any (base:Nat) (xs:List UInt8) (n:Nat) (v0 v:Value) (f:Act) (w:World) (hl:xs.length<=70368744177800) (hb:base<=w.heap.size) (hv:w.ownsRow base 5 1 v xs.length (bv xs))
  (hF:Fr 34 [(0,v0),(3,v),(4,.int .u64 (n:Int)),(5,.int .i64 7)] f) :
  Code.wp prog blkP2 (Exit.then (fun a' w'=>(∃ v',Fr 34 [(0,v0),(3,v')] a'/\w'.ownsRow base 5 1 v' (xs.length+8) (bv (xs++lenBytes n 8)))/\base<=w'.heap.size/\Mod (fun p=>base<=p) w w') Nope) f w:=by
 refine wp_part fun J K' hJ hK=>?_
 obtain ⟨i0,hi,hz0,hz1,hz2⟩:=info_parts info_byte;have HI:=zh (And.intro hi (And.intro hz0 (And.intro hz1 hz2)));clear hi hz0 hz1 hz2;have H0:=zh (show LpB2 w base xs n v0 8 f w from ⟨0,v,rfl,Mod.refl _ w,hb,by simpa [lenBytes] using hv,hF⟩);have HJ:=zh hJ;obtain ⟨w0,hw0⟩:∃ w0,w0=w:=⟨_,rfl⟩
 rw [<- hw0] at HJ H0;clear hF hJ hv;conv=>arg 2;whnf
 go_step
 refine wp_loop_ghost_k (LpB2 w0 base xs n v0) 8 (by rw [hw0] at H0 ⊢;exact H0.out) ?_;clear H0 hw0 hb f w v;intro k f w hI J2 K2 hJ2 hK2;have HJ2:=zh hJ2;obtain ⟨j,v,hjk,hmod,hb,hown,hF⟩:=hI;have HO:=zh hown;have HM:=zh hmod;have HB:=zh hb;obtain ⟨va,vc,rfl⟩:=(Sl.of_own hown (X:=No) (fun _ _ f=>f)).len;clear hJ2 hmod hb hown;by_cases hi:j < 8
 ·obtain ⟨i,hii⟩:∃ i,i=7 - j:=⟨_,rfl⟩
  obtain ⟨s,hs⟩:∃ s,s=56 - 8*j:=⟨_,rfl⟩
  rw [show (7:Int) - (j:Int)=(i:Int) by omega] at hF;obtain ⟨ts,ds⟩:=f;obtain ⟨hsz,hds,hs0,hs3,hs4,hs5,-⟩:=hF;dsimp only at hsz hds hs0 hs3 hs4 hs5;subst hds;obtain ⟨c,rfl,hc⟩:=lit34 ts hsz;rw [hc] at hs0;rw [hc] at hs3;rw [hc] at hs4;rw [hc] at hs5;simp only [hs0,hs3,hs4,hs5];clear hc hsz hs0 hs3 hs4 hs5;have b1:(0:Int)<=(i:Int):=Int.natCast_nonneg _;have b2:(i:Int)<=7:=by omega
  have q1:(8:Int)*(i:Int)=(s:Int):=by omega
  have b3:(0:Int)<=(s:Int):=Int.natCast_nonneg _;have b4:(s:Int)<=56:=by omega
  obtain ⟨x,hx⟩:∃ x:Int,x=((lenByte n j).toNat:Int):=⟨_,rfl⟩
  have q2:(n:Int) / 2 ^ s % 256=x:=by rw [hx];exact lenByte_val n j s hs
  have HX:=zh (And.intro hx (And.intro hii hs));obtain ⟨w1,hw1⟩:∃ w1,w1=w.alloc (.cells #[.int .u8 x] 5):=⟨_,rfl⟩
  have hm1:Mod No w w1:=by rw [hw1];exact (Mod.refl No w).alloc _
  have hg1:w1.heap[w.heap.size]? = some (.cells #[.int .u8 x] 5 (0,0)):=by rw [hw1];exact heap_alloc_new w _
  have HS:=zh (show Sl w1 No 5 (.slice (some ⟨w.heap.size,0,none⟩) 1 1) 1 [.int .u8 x] from .inr ⟨w.heap.size,0,1,_,_,rfl,Nat.le_refl _,by unfold maxLen;omega,fun f=>f,hg1,by simp,fun i hi=>by simp at hi;subst hi;rfl⟩);have HO1:=zh (own_keepM HO.out hm1 (fun _ _ f=>f));have HB1:=zh (Nat.le_trans HB.out hm1.size);have HM1:=zh hm1;have HW1:=zh hw1;obtain ⟨hi0,hz0,hz1,hz2⟩:=HI.out;have HNL:=zh (show xs.length+j+1<=140737488355328 by omega);clear hm1 hg1 hw1 hx hii hs;go_wp2_with (rw [<- HW1.out];at_builtin;refine app_sl _ rfl _ _ 76 rfl base 5 i0 (.int .u8 0) 1 1 underlying76 hi0 hz0 hz1 hz2 rfl (by decide) (.slice va (xs.length+j) vc) (xs.length+j) _ rfl HO1.out No 5 _ 1 [.int .u8 x] rfl HS.out rfl (by simp [Value.oneCell']) (by have:=HNL.out;unfold maxLen;omega) (by have:=HNL.out;omega) HB1.out ?_;intro v3 w3 hown hg hiff;have HO3:=zh (And.intro hown hg);clear hown hg hiff)
  have hm3:Mod (fun p=>base<=p) w1 w3:=Mod.of_grown HO3.out.2 (fun k e _=>(HO1.out.lt _ e).1);have hmm:Mod (fun p=>base<=p) w0 w3:=HM.out.trans ((HM1.out.weaken fun _ _ f=>f.elim:Mod (fun p=>base<=p) w w1).trans hm3);exact Handed.intro (k - 1) (by omega) (HJ2.out _ _ _ ⟨j+1,v3,by omega,hmm,Nat.le_trans HB1.out hm3.size,by
   have h1:=HO3.out.1;rw [lenBytes_succ,<- List.append_assoc,bv_append,<- Nat.add_assoc];rw [HX.out.1] at h1;exact h1,rfl,rfl,rfl,rfl,rfl,by have:=HX.out.2.1;show Value.int .i64 _=Value.int .i64 _;congr 1;omega,trivial⟩)
 ·have hj8:j=8:=by omega
  subst hj8;obtain ⟨ts,ds⟩:=f;obtain ⟨hsz,hds,hs0,hs3,hs4,hs5,-⟩:=hF;dsimp only at hsz hds hs0 hs3 hs4 hs5;subst hds;obtain ⟨c,rfl,hc⟩:=lit34 ts hsz;rw [hc] at hs0;rw [hc] at hs3;rw [hc] at hs4;rw [hc] at hs5;simp only [hs0,hs3,hs4,hs5];clear hc hsz hs0 hs3 hs4 hs5;go_wp2_with fail
  exact Met.intro (HJ.out _ _ ⟨⟨_,⟨rfl,rfl,rfl,rfl,trivial⟩,HO.out⟩,HB.out,HM.out⟩)
theorem pad_any (l:List UInt8) (V:Value) (w:World) (hl:l.length<=70368744177664) (hV:Sl w No 5 V l.length (bv l)) :
  Calls prog 130 #[V] w fun e w'=>∃ v,e=.returned v/\w'.ownsRow w.heap.size 5 1 v (padT l).length (bv (padT l))/\Mod No w w':=by
 refine calls_hide fun R hR=>?_
 obtain ⟨i0,hi,hz0,hz1,hz2⟩:=info_parts info_byte;obtain ⟨va,vc,rfl⟩:=hV.len;have HV:=zh hV;clear hV;obtain ⟨base,hbase⟩:∃ base,base=w.heap.size:=⟨_,rfl⟩
 rw [<- hbase] at hR;have HBA:=zh hbase;clear hbase;obtain ⟨n,hn⟩:∃ n,n=l.length:=⟨_,rfl⟩
 rw [<- hn] at HV;rw [<- hn];have HN:=zh hn;have hn8:(n:Int)<=70368744177664:=by omega
 have hn0:(0:Int)<=(n:Int):=Int.natCast_nonneg _;clear hn;go_enter func130,ntmps130
 go_upto_region 1 with fail
 rename_i K5 hK5;have HK5:=zh hK5;clear hK5;go_wp2_with (first
  |(at_builtin;refine app_sl _ rfl _ _ 76 rfl base 5 i0 (.int .u8 0) 1 1 underlying76 hi hz0 hz1 hz2 rfl (by decide) (.slice none 0 0) 0 [] rfl (World.ownsRow_nil _ _ _ _) No 5 _ n (bv l) rfl HV.out (by rw [bv_length,HN.out,Nat.mul_one]) (bv_one _) (by unfold maxLen;omega) (by omega) (by rw [HBA.out];exact Nat.le_refl _) ?_;intro v3 w3 hown hg hiff;rw [Nat.zero_add,List.nil_append] at hown;have HO3:=zh (And.intro hown hg);clear hown hg hiff;obtain ⟨va3,vc3,hv3⟩:=(Sl.of_own HO3.out.1 (X:=No) (fun _ _ f=>f)).len;subst hv3)
  |(at_builtin;refine app_sl _ rfl _ _ 76 rfl base 5 i0 (.int .u8 0) 1 1 underlying76 hi hz0 hz1 hz2 rfl (by decide) (.slice va3 n vc3) n _ rfl (own_keepM HO3.out.1 ((Mod.refl No w3).alloc _) (fun _ _ f=>f)) No 5 (.slice (some ⟨w3.heap.size,0,none⟩) 1 1) 1 [.int .u8 128] rfl (.inr ⟨w3.heap.size,0,1,_,_,rfl,Nat.le_refl _,by unfold maxLen;omega,fun f=>f,heap_alloc_new w3 _,by simp,fun i hi=>by simp at hi;subst hi;rfl⟩) rfl (by simp [Value.oneCell']) (by unfold maxLen;omega) (by omega) (Nat.le_trans (by rw [HBA.out];exact HO3.out.2.size) ((Mod.refl No w3).alloc _).size) ?_;intro v5 w5 hown hg hiff;have HO5:=zh (And.intro hown hg);clear hown hg hiff))
 have hm3:Mod No w w3:=Mod.of_grown HO3.out.2 (fun k e _=>by cases e);have hm35:Mod (fun p=>base<=p) w3 w5:=((Mod.refl (fun p=>base<=p) w3).alloc _).trans (Mod.of_grown HO5.out.2 (fun k e _=>(HO3.out.1.lt _ e).1));have HM5:=zh (show Mod (fun p=>base<=p) w w5 from (hm3.weaken fun _ _ f=>f.elim:Mod (fun p=>base<=p) w w3).trans hm35);have HB5:=zh (show base<=w5.heap.size by rw [HBA.out];exact HM5.out.size);have HOW5:=zh (show w5.ownsRow base 5 1 v5 (l.length+1) (bv (l++[128])) by
  have h1:=HO5.out.1;rw [bv_append,<- HN.out];exact h1)
 refine HK5.out _ _ ?_;clear hm3 hm35 HO3 HO5 HK5 K5;go_upto_block 0 with fail
 rename_i K6 hK6;refine wp_only (zeros_any base l _ v5 _ w5 hl HB5.out HOW5.out ⟨rfl,rfl,rfl,rfl,trivial⟩) ?_;rintro a6 w6 ⟨⟨v6,hF,hown6⟩,hb6,hm6⟩;have HM6:=zh (HM5.out.trans hm6);have HB6:=zh hb6;have HO6:=zh hown6;refine hK6 _ _ ?_;clear hm6 hb6 hown6 hK6 K6;obtain ⟨ts,ds⟩:=a6;obtain ⟨hsz,hds,hs0,hs3,-⟩:=hF;dsimp only at hsz hds hs0 hs3;subst hds;obtain ⟨c,rfl,hc⟩:=lit34 ts hsz;rw [hc] at hs0;rw [hc] at hs3;simp only [hs0,hs3];clear hc hsz hs0 hs3;go_upto_block 2 with fail
 rename_i K6 hK6;have hxl:(l++128 :: List.replicate (64*lastN l - 9 - l.length % 64) 0).length=l.length+1+(64*lastN l - 9 - l.length % 64):=by simp;omega
 refine wp_only (padlens_any base (l++128 :: List.replicate (64*lastN l - 9 - l.length % 64) 0) (n*8) _ v6 _ w6 (by rw [hxl];have:=lastN_le2 l;omega) HB6.out (by rw [hxl];exact HO6.out) ⟨rfl,rfl,rfl,rfl,rfl,rfl,trivial⟩) ?_;rintro a7 w7 ⟨⟨v7,hF,hown7⟩,hb7,hm7⟩;have HM7:=zh (HM6.out.trans hm7);have HO7:=zh (show w7.ownsRow base 5 1 v7 (padT l).length (bv (padT l)) by
  have e1:(padT l).length=(l++128 :: List.replicate (64*lastN l - 9 - l.length % 64) 0).length+8:=by unfold padT;rw [List.length_append,lenBytes_length]
  rw [e1];have h1:=hown7;rw [HN.out] at h1;exact h1)
 refine hK6 _ _ ?_;clear hm7 hb7 hown7 hK6 K6 hxl c;obtain ⟨ts,ds⟩:=a7;obtain ⟨hsz,hds,hs0,hs3,-⟩:=hF;dsimp only at hsz hds hs0 hs3;subst hds;obtain ⟨c,rfl,hc⟩:=lit34 ts hsz;rw [hc] at hs0;rw [hc] at hs3;simp only [hs0,hs3];clear hc hsz hs0 hs3;go_wp2_with fail
 exact fin hR ⟨_,rfl,HO7.out,HM7.out.weaken (fun k hk e=>absurd hk (by have:=HBA.out;omega))⟩
theorem lit259 (t:Array Value) (h:t.size=259):∃ c:Nat->Value,t=#[c 0,c 1,c 2,c 3,c 4,c 5,c 6,c 7,c 8,c 9,c 10,c 11,c 12,c 13,c 14,c 15,c 16,c 17,c 18,c 19,c 20,c 21,c 22,c 23,c 24,c 25,c 26,c 27,c 28,c 29,c 30,c 31,c 32,c 33,c 34,c 35,c 36,c 37,c 38,c 39,c 40,c 41,c 42,c 43,c 44,c 45,c 46,c 47,c 48,c 49,c 50,c 51,c 52,c 53,c 54,c 55,c 56,c 57,c 58,c 59,c 60,c 61,c 62,c 63,c 64,c 65,c 66,c 67,c 68,c 69,c 70,c 71,c 72,c 73,c 74,c 75,c 76,c 77,c 78,c 79,c 80,c 81,c 82,c 83,c 84,c 85,c 86,c 87,c 88,c 89,c 90,c 91,c 92,c 93,c 94,c 95,c 96,c 97,c 98,c 99,c 100,c 101,c 102,c 103,c 104,c 105,c 106,c 107,c 108,c 109,c 110,c 111,c 112,c 113,c 114,c 115,c 116,c 117,c 118,c 119,c 120,c 121,c 122,c 123,c 124,c 125,c 126,c 127,c 128,c 129,c 130,c 131,c 132,c 133,c 134,c 135,c 136,c 137,c 138,c 139,c 140,c 141,c 142,c 143,c 144,c 145,c 146,c 147,c 148,c 149,c 150,c 151,c 152,c 153,c 154,c 155,c 156,c 157,c 158,c 159,c 160,c 161,c 162,c 163,c 164,c 165,c 166,c 167,c 168,c 169,c 170,c 171,c 172,c 173,c 174,c 175,c 176,c 177,c 178,c 179,c 180,c 181,c 182,c 183,c 184,c 185,c 186,c 187,c 188,c 189,c 190,c 191,c 192,c 193,c 194,c 195,c 196,c 197,c 198,c 199,c 200,c 201,c 202,c 203,c 204,c 205,c 206,c 207,c 208,c 209,c 210,c 211,c 212,c 213,c 214,c 215,c 216,c 217,c 218,c 219,c 220,c 221,c 222,c 223,c 224,c 225,c 226,c 227,c 228,c 229,c 230,c 231,c 232,c 233,c 234,c 235,c 236,c 237,c 238,c 239,c 240,c 241,c 242,c 243,c 244,c 245,c 246,c 247,c 248,c 249,c 250,c 251,c 252,c 253,c 254,c 255,c 256,c 257,c 258]/\∀ i,t.getD i undef=c i:=by
 refine ⟨fun i=>t.getD i undef,?_,fun _=>rfl⟩
 have h1:=arr_lits t;rw [h] at h1;exact h1.trans (by kernel_rfl)
noncomputable def bodyW:Code:=Tryz.f81.body.getD .skip
noncomputable def blkW2:Code:=(blockAt 2 bodyW).getD .skip
noncomputable def blkW3:Code:=(blockAt 3 bodyW).getD .skip
noncomputable def blkW4:Code:=(blockAt 4 bodyW).getD .skip
noncomputable def blkW5:Code:=(blockAt 5 bodyW).getD .skip
noncomputable def blkW6:Code:=(blockAt 6 bodyW).getD .skip
noncomputable def blkW7:Code:=(blockAt 7 bodyW).getD .skip
theorem rword_lo (bb bo bn bc g i at':Nat) (v2 v3 v4:Value) (y0 y1 y2 y3:Int) (ws:List Int) (a:Act) (w:World) (hi:i < 16) (hn:at'+64<=bn) (hb:bn<=281474976710656) (hws:ws.length=i) (hg:w.heap[g]? = some (.cells (wCells ws) 232 (0,0)))
  (h0:w.cell? ⟨bb,bo+(at'+(4*i+0)),none⟩=some (.int .u8 y0)) (h1:w.cell? ⟨bb,bo+(at'+(4*i+1)),none⟩=some (.int .u8 y1)) (h2:w.cell? ⟨bb,bo+(at'+(4*i+2)),none⟩=some (.int .u8 y2)) (h3:w.cell? ⟨bb,bo+(at'+(4*i+3)),none⟩=some (.int .u8 y3))
  (hF:Fr 259 [(2,v2),(3,v3),(4,v4),(5,.slice (some ⟨bb,bo,none⟩) bn bc),(6,.int .i64 (at':Int)),(7,.pointer (some ⟨g,0,none⟩)),(8,.int .i64 (i:Int))] a) :
  Code.wp prog blkW3 (Exit.then (fun a' w'=>Fr 259 [(2,v2),(3,v3),(4,v4),(5,.slice (some ⟨bb,bo,none⟩) bn bc),(6,.int .i64 (at':Int)),(7,.pointer (some ⟨g,0,none⟩)),(8,.int .i64 (i:Int))] a'/\w'.heap[g]? = some (.cells (wCells (ws++[be4 y0 y1 y2 y3])) 232 (0,0))/\Mod (fun q=>q=g) w w') Nope) a w:=by
 refine wp_part fun J K' hJ hK=>?_
 obtain ⟨ts,ds⟩:=a;obtain ⟨hsz,hds,hs2,hs3,hs4,hs5,hs6,hs7,hs8,-⟩:=hF;dsimp only at hsz hds hs2 hs3 hs4 hs5 hs6 hs7 hs8;subst hds;obtain ⟨c,rfl,hc⟩:=lit259 ts hsz;rw [hc] at hs2;rw [hc] at hs3;rw [hc] at hs4;rw [hc] at hs5;rw [hc] at hs6;rw [hc] at hs7;rw [hc] at hs8;simp only [hs2,hs3,hs4,hs5,hs6,hs7,hs8];clear hc hsz hs2 hs3 hs4 hs5 hs6 hs7 hs8;have hi0:(0:Int)<=(i:Int):=Int.natCast_nonneg _;have hi64:(i:Int) < 64:=by omega
 have HG:=zh hg;obtain ⟨j,hj⟩:∃ j,j=4*i:=⟨_,rfl⟩
 rw [<- hj] at h0 h1 h2 h3;have hjI:(4:Int)*(i:Int)=(j:Int):=by omega
 have hj0:(0:Int)<=(j:Int):=Int.natCast_nonneg _;obtain ⟨m,hm⟩:∃ m,m=at'+j:=⟨_,rfl⟩
 obtain ⟨m1,hm1⟩:∃ j1,j1=m+1:=⟨_,rfl⟩
 obtain ⟨m2,hm2⟩:∃ j2,j2=m+2:=⟨_,rfl⟩
 obtain ⟨m3,hm3⟩:∃ j3,j3=m+3:=⟨_,rfl⟩
 have EJ:=zh (show IntKind.i64.wrap (j:Int)=(j:Int) by rw [IntKind.wrap_i64];omega);have EM:=zh (show IntKind.i64.wrap ((at':Int)+(j:Int))=(m:Int) by rw [IntKind.wrap_i64];omega);have E1:=zh (show IntKind.i64.wrap ((m:Int)+1)=(m1:Int) by rw [IntKind.wrap_i64];omega);have E2:=zh (show IntKind.i64.wrap ((m:Int)+2)=(m2:Int) by rw [IntKind.wrap_i64];omega);have E3:=zh (show IntKind.i64.wrap ((m:Int)+3)=(m3:Int) by rw [IntKind.wrap_i64];omega);have b1:(m1:Int) < (bn:Int):=by omega
 have b2:(m2:Int) < (bn:Int):=by omega
 have b3:(m3:Int) < (bn:Int):=by omega
 have b0:(m:Int) < (bn:Int):=by omega
 have c0:(0:Int)<=(m:Int):=Int.natCast_nonneg _;have c1:(0:Int)<=(m1:Int):=Int.natCast_nonneg _;have c2:(0:Int)<=(m2:Int):=Int.natCast_nonneg _;have c3:(0:Int)<=(m3:Int):=Int.natCast_nonneg _;rw [Nat.add_zero,<- hm] at h0;rw [<- Nat.add_assoc at' j,<- hm,<- hm1] at h1;rw [<- Nat.add_assoc at' j,<- hm,<- hm2] at h2;rw [<- Nat.add_assoc at' j,<- hm,<- hm3] at h3;clear hm1 hm2 hm3;have hS0:=And.intro h0 (And.intro h1 (And.intro h2 h3));clear hm hj hg hb;conv=>arg 2;whnf
 go_upto_region 11 with fail
 refine wp_region_T (fun w'=>w'.cell? ⟨bb,bo+m,none⟩=some (.int .u8 y0)/\w'.cell? ⟨bb,bo+m1,none⟩=some (.int .u8 y1)/\w'.cell? ⟨bb,bo+m2,none⟩=some (.int .u8 y2)/\w'.cell? ⟨bb,bo+m3,none⟩=some (.int .u8 y3)) 43 (by kernel_rfl) ?_;refine yR 0 39 hS0 ?_;refine yR 1 40 hS0 ?_;refine yR 2 41 hS0 ?_;refine yR 3 42 hS0 ?_;refine wpAnyT_take 4 (some 43) (.int .i64 (j:Int)) rfl rfl (by kernel_rfl) (fun _ _ _ h=>h) hS0 (Or.inl ⟨by rfl,?_⟩) ?_
 ·(intro w' hSw;obtain ⟨s0,s1,s2,s3⟩:=hSw;go_simp;exact EJ.out)
 simp only [Act.put,yB,yC,yD];refine wpAnyT_take 5 (some 44) (.int .i64 (m:Int)) rfl rfl (by kernel_rfl) (fun _ _ _ h=>h) hS0 (Or.inl ⟨by rfl,?_⟩) ?_
 ·(intro w' hSw;obtain ⟨s0,s1,s2,s3⟩:=hSw;go_simp;exact EM.out)
 simp only [Act.put,yB,yC,yD];refine yR 6 45 hS0 ?_;refine yR 7 46 hS0 ?_;refine yR 8 47 hS0 ?_;refine yR 9 48 hS0 ?_;refine yR 10 49 hS0 ?_;refine yR 11 50 hS0 ?_;refine yR 12 51 hS0 ?_;refine wpAnyT_take 13 (some 52) (.int .i64 (j:Int)) rfl rfl (by kernel_rfl) (fun _ _ _ h=>h) hS0 (Or.inl ⟨by rfl,?_⟩) ?_
 ·(intro w' hSw;obtain ⟨s0,s1,s2,s3⟩:=hSw;go_simp;exact EJ.out)
 simp only [Act.put,yB,yC,yD];refine wpAnyT_take 14 (some 53) (.int .i64 (m:Int)) rfl rfl (by kernel_rfl) (fun _ _ _ h=>h) hS0 (Or.inl ⟨by rfl,?_⟩) ?_
 ·(intro w' hSw;obtain ⟨s0,s1,s2,s3⟩:=hSw;go_simp;exact EM.out)
 simp only [Act.put,yB,yC,yD];refine wpAnyT_take 15 (some 54) (.int .i64 (m1:Int)) rfl rfl (by kernel_rfl) (fun _ _ _ h=>h) hS0 (Or.inl ⟨by rfl,?_⟩) ?_
 ·(intro w' hSw;obtain ⟨s0,s1,s2,s3⟩:=hSw;go_simp;exact E1.out)
 simp only [Act.put,yB,yC,yD];refine yR 16 55 hS0 ?_;refine yR 17 56 hS0 ?_;refine yR 18 57 hS0 ?_;refine yR 19 58 hS0 ?_;refine yR 20 59 hS0 ?_;refine yR 21 60 hS0 ?_;refine yR 22 61 hS0 ?_;refine yR 23 62 hS0 ?_;refine wpAnyT_take 24 (some 63) (.int .i64 (j:Int)) rfl rfl (by kernel_rfl) (fun _ _ _ h=>h) hS0 (Or.inl ⟨by rfl,?_⟩) ?_
 ·(intro w' hSw;obtain ⟨s0,s1,s2,s3⟩:=hSw;go_simp;exact EJ.out)
 simp only [Act.put,yB,yC,yD];refine wpAnyT_take 25 (some 64) (.int .i64 (m:Int)) rfl rfl (by kernel_rfl) (fun _ _ _ h=>h) hS0 (Or.inl ⟨by rfl,?_⟩) ?_
 ·(intro w' hSw;obtain ⟨s0,s1,s2,s3⟩:=hSw;go_simp;exact EM.out)
 simp only [Act.put,yB,yC,yD];refine wpAnyT_take 26 (some 65) (.int .i64 (m2:Int)) rfl rfl (by kernel_rfl) (fun _ _ _ h=>h) hS0 (Or.inl ⟨by rfl,?_⟩) ?_
 ·(intro w' hSw;obtain ⟨s0,s1,s2,s3⟩:=hSw;go_simp;exact E2.out)
 simp only [Act.put,yB,yC,yD];refine yR 27 66 hS0 ?_;refine yR 28 67 hS0 ?_;refine yR 29 68 hS0 ?_;refine yR 30 69 hS0 ?_;refine yR 31 70 hS0 ?_;refine yR 32 71 hS0 ?_;refine yR 33 72 hS0 ?_;refine yR 34 73 hS0 ?_;refine wpAnyT_take 35 (some 74) (.int .i64 (j:Int)) rfl rfl (by kernel_rfl) (fun _ _ _ h=>h) hS0 (Or.inl ⟨by rfl,?_⟩) ?_
 ·(intro w' hSw;obtain ⟨s0,s1,s2,s3⟩:=hSw;go_simp;exact EJ.out)
 simp only [Act.put,yB,yC,yD];refine wpAnyT_take 36 (some 75) (.int .i64 (m:Int)) rfl rfl (by kernel_rfl) (fun _ _ _ h=>h) hS0 (Or.inl ⟨by rfl,?_⟩) ?_
 ·(intro w' hSw;obtain ⟨s0,s1,s2,s3⟩:=hSw;go_simp;exact EM.out)
 simp only [Act.put,yB,yC,yD];refine wpAnyT_take 37 (some 76) (.int .i64 (m3:Int)) rfl rfl (by kernel_rfl) (fun _ _ _ h=>h) hS0 (Or.inl ⟨by rfl,?_⟩) ?_
 ·(intro w' hSw;obtain ⟨s0,s1,s2,s3⟩:=hSw;go_simp;exact E3.out)
 simp only [Act.put,yB,yC,yD];refine yR 38 77 hS0 ?_;refine yR 39 78 hS0 ?_;refine yR 40 79 hS0 ?_;refine yR 41 80 hS0 ?_;refine yR 42 81 hS0 ?_;refine wpAnyT_one 43 rfl (by kernel_rfl) rfl ?_;intro K hK;have cg:=cell_ofA HG.out (wCells_new hws (by omega));have fg:=frozen_of i HG.out;obtain ⟨w5,hw5⟩:∃ w5,w5=(w.setCell ⟨g,i,none⟩ (.int .u32 (be4 y0 y1 y2 y3))).drew:=⟨_,rfl⟩
 have HR5:=zh (show w5.heap[g]? = some (.cells (wCells (ws++[be4 y0 y1 y2 y3])) 232 (0,0)) by rw [hw5];show (w.setCell ⟨g,i,none⟩ (.int .u32 (be4 y0 y1 y2 y3))).heap[g]? = _;rw [heap_setCell HG.out,wCells_set hws (by omega)]);have HM5:=zh (show Mod (fun q=>q=g) w w5 by rw [hw5];exact ((Mod.refl (fun q=>q=g) w).setCell (fun _=>rfl) _).drew);have HW5:=zh hw5;clear hw5;unfold be4 at HW5;go_simp
 rw [<- HW5.out];show K _ _
 refine hK.out _ _ (fun h=>absurd rfl h) ?_;clear hK K;refine wpAnyT_done (by kernel_rfl) ?_ _
 go_wp2_with fail
 exact Met.intro (hJ _ _ ⟨⟨rfl,rfl,rfl,rfl,rfl,rfl,rfl,rfl,rfl,trivial⟩,HR5.out,HM5.out⟩)
def LpU (w0:World) (b:Nat->Int) (bb bo bn bc g at':Nat) (v2 v3 v4:Value) (k:Nat) (a:Act) (w:World):Prop :=
 ∃ i,i+k=16/\Mod (fun q=>q=g) w0 w/\w.heap[g]? = some (.cells (wCells (wordsF b i)) 232 (0,0)) ∧
  Fr 259 [(2,v2),(3,v3),(4,v4),(5,.slice (some ⟨bb,bo,none⟩) bn bc),(6,.int .i64 (at':Int)),(7,.pointer (some ⟨g,0,none⟩)),(8,.int .i64 (i:Int))] a
theorem rwords_lo (b:Nat->Int) (bb bo bn bc g at':Nat) (v2 v3 v4:Value) (f:Act) (w:World) (hn:at'+64<=bn) (hbn:bn<=281474976710656) (hbg:bb ≠ g)
  (hb:∀ k,k < 64->w.cell? ⟨bb,bo+(at'+k),none⟩=some (.int .u8 (b k))) (hg:w.heap[g]? = some (.cells (wCells []) 232 (0,0)))
  (hF:Fr 259 [(2,v2),(3,v3),(4,v4),(5,.slice (some ⟨bb,bo,none⟩) bn bc),(6,.int .i64 (at':Int)),(7,.pointer (some ⟨g,0,none⟩)),(8,.int .i64 0)] f) :
  Code.wp prog blkW2 (Exit.then (fun a' w'=>Fr 259 [(2,v2),(3,v3),(4,v4),(5,.slice (some ⟨bb,bo,none⟩) bn bc),(6,.int .i64 (at':Int)),(7,.pointer (some ⟨g,0,none⟩))] a'/\w'.heap[g]? = some (.cells (wCells (wordsF b 16)) 232 (0,0))/\Mod (fun q=>q=g) w w') Nope) f w:=by
 refine wp_part fun J K' hJ hK=>?_
 have H0:=zh (show LpU w b bb bo bn bc g at' v2 v3 v4 16 f w from ⟨0,rfl,Mod.refl _ w,hg,hF⟩);have HB:=zh hb;have HJ:=zh hJ;obtain ⟨w0,hw0⟩:∃ w0,w0=w:=⟨_,rfl⟩
 rw [<- hw0] at HB HJ H0;clear hb hF hJ hg;conv=>arg 2;whnf
 go_step
 refine wp_loop_ghost_k (LpU w0 b bb bo bn bc g at' v2 v3 v4) 16 (by rw [hw0] at H0 ⊢;exact H0.out) ?_;clear H0 hw0 f w;intro k f w hI J2 K2 hJ2 hK2;have HJ2:=zh hJ2;obtain ⟨i,hik,hmod,hg,hF⟩:=hI;have HG:=zh hg;have HM:=zh hmod;clear hJ2 hg hmod;obtain ⟨ts,ds⟩:=f;obtain ⟨hsz,hds,hs2,hs3,hs4,hs5,hs6,hs7,hs8,-⟩:=hF;dsimp only at hsz hds hs2 hs3 hs4 hs5 hs6 hs7 hs8;subst hds;obtain ⟨c,rfl,hc⟩:=lit259 ts hsz;rw [hc] at hs2;rw [hc] at hs3;rw [hc] at hs4;rw [hc] at hs5;rw [hc] at hs6;rw [hc] at hs7;rw [hc] at hs8;simp only [hs2,hs3,hs4,hs5,hs6,hs7,hs8];clear hc hsz hs2 hs3 hs4 hs5 hs6 hs7 hs8;have hi0:(0:Int)<=(i:Int):=Int.natCast_nonneg _;by_cases hi:i < 16
 ·have hi64:(i:Int) < 16:=by omega
  go_upto_block 3 with fail
  rename_i K5 hK5;have hc:∀ j,j < 4->w.cell? ⟨bb,bo+(at'+(4*i+j)),none⟩=some (.int .u8 (b (4*i+j))):=fun j hj=>HM.out.cell (HB.out _ (by omega)) (fun e=>hbg e)
  have HC:=zh hc;clear hc;refine wp_only (rword_lo bb bo bn bc g i at' v2 v3 v4 _ _ _ _ _ _ w hi hn hbn (wordsF_length b i) HG.out (HC.out 0 (by omega)) (HC.out 1 (by omega)) (HC.out 2 (by omega)) (HC.out 3 (by omega)) ⟨rfl,rfl,rfl,rfl,rfl,rfl,rfl,rfl,rfl,trivial⟩) ?_;rintro a2 w2 ⟨hF,hg2,hm2⟩;rw [<- wordsF_lo b hi] at hg2;have HG2:=zh hg2;have HM2:=zh (HM.out.trans hm2);clear hg2 hm2 HG HC;refine hK5 _ _ ?_;obtain ⟨ts,ds⟩:=a2;obtain ⟨hsz,hds,hs2,hs3,hs4,hs5,hs6,hs7,hs8,-⟩:=hF;dsimp only at hsz hds hs2 hs3 hs4 hs5 hs6 hs7 hs8;subst hds;obtain ⟨c,rfl,hc⟩:=lit259 ts hsz;rw [hc] at hs2;rw [hc] at hs3;rw [hc] at hs4;rw [hc] at hs5;rw [hc] at hs6;rw [hc] at hs7;rw [hc] at hs8;simp only [hs2,hs3,hs4,hs5,hs6,hs7,hs8];clear hc hsz hs2 hs3 hs4 hs5 hs6 hs7 hs8;clear hK5 K5;go_wp2_with fail
  exact Handed.intro (k - 1) (by omega) (HJ2.out _ _ _ ⟨i+1,by omega,HM2.out,HG2.out,rfl,rfl,rfl,rfl,rfl,rfl,rfl,rfl,by go_num,trivial⟩)
 ·have hi64:i=16:=by omega
  subst hi64;go_wp2_with fail
  exact Met.intro (HJ.out _ _ ⟨⟨rfl,rfl,rfl,rfl,rfl,rfl,rfl,rfl,trivial⟩,HG.out,HM.out⟩)
theorem rword_hi (g i:Nat) (v2 v3 v4 v5 v6:Value) (a16 a15 a7 a2:Int) (ws:List Int) (a:Act) (w:World) (hi:16<=i) (hi2:i < 64) (hws:ws.length=i) (hg:w.heap[g]? = some (.cells (wCells ws) 232 (0,0)))
  (h16:ws[i - 16]? = some a16) (h15:ws[i - 15]? = some a15) (h7:ws[i - 7]? = some a7) (h2:ws[i - 2]? = some a2)
  (hF:Fr 259 [(2,v2),(3,v3),(4,v4),(5,v5),(6,v6),(7,.pointer (some ⟨g,0,none⟩)),(9,.int .i64 (i:Int))] a) :
  Code.wp prog blkW5 (Exit.then (fun a' w'=>Fr 259 [(2,v2),(3,v3),(4,v4),(5,v5),(6,v6),(7,.pointer (some ⟨g,0,none⟩)),(9,.int .i64 (i:Int))] a'/\w'.heap[g]? = some (.cells (wCells (ws++[nextW a16 a15 a7 a2])) 232 (0,0))/\Mod (fun q=>q=g) w w') Nope) a w:=by
 refine wp_part fun J K' hJ hK=>?_
 obtain ⟨ts,ds⟩:=a;obtain ⟨hsz,hds,hs2,hs3,hs4,hs5,hs6,hs7,hs9,-⟩:=hF;dsimp only at hsz hds hs2 hs3 hs4 hs5 hs6 hs7 hs9;subst hds;obtain ⟨c,rfl,hc⟩:=lit259 ts hsz;rw [hc] at hs2;rw [hc] at hs3;rw [hc] at hs4;rw [hc] at hs5;rw [hc] at hs6;rw [hc] at hs7;rw [hc] at hs9;simp only [hs2,hs3,hs4,hs5,hs6,hs7,hs9];clear hc hsz hs2 hs3 hs4 hs5 hs6 hs7 hs9;have hi0:(16:Int)<=(i:Int):=by omega
 have hi64:(i:Int) < 64:=by omega
 have HG0:=zh hg;have c16:=cell_ofA hg (wCells_old h16);have c15:=cell_ofA hg (wCells_old h15);have c7:=cell_ofA hg (wCells_old h7);have c2:=cell_ofA hg (wCells_old h2);obtain ⟨k16,hk16⟩:∃ k,k=i - 16:=⟨_,rfl⟩
 obtain ⟨k15,hk15⟩:∃ k,k=i - 15:=⟨_,rfl⟩
 obtain ⟨k7,hk7⟩:∃ k,k=i - 7:=⟨_,rfl⟩
 obtain ⟨k2,hk2⟩:∃ k,k=i - 2:=⟨_,rfl⟩
 rw [<- hk16] at c16;rw [<- hk15] at c15;rw [<- hk7] at c7;rw [<- hk2] at c2;have e16:(i:Int) - 16=(k16:Int):=by omega
 have e15:(i:Int) - 15=(k15:Int):=by omega
 have e7:(i:Int) - 7=(k7:Int):=by omega
 have e2:(i:Int) - 2=(k2:Int):=by omega
 have b16:(k16:Int) < 64:=by omega
 have b15:(k15:Int) < 64:=by omega
 have b7:(k7:Int) < 64:=by omega
 have b2:(k2:Int) < 64:=by omega
 have n16:(0:Int)<=(k16:Int):=Int.natCast_nonneg _;have n15:(0:Int)<=(k15:Int):=Int.natCast_nonneg _;have n7:(0:Int)<=(k7:Int):=Int.natCast_nonneg _;have n2:(0:Int)<=(k2:Int):=Int.natCast_nonneg _;have E16:=zh (show IntKind.i64.wrap (k16:Int)=(k16:Int) by rw [IntKind.wrap_i64];omega);have E7:=zh (show IntKind.i64.wrap (k7:Int)=(k7:Int) by rw [IntKind.wrap_i64];omega);have C16w:=zh c16;have C7w:=zh c7;have R7:=zh (show ∀ W,Calls prog 131 #[.int .u32 a15,.int .i64 7] W fun e w'=>e=.returned (.int .u32 (rotR 7 a15))/\Mod No W w' from fun W=>refturn_any a15 7 (by decide) (by decide) W);have R18:=zh (show ∀ W,Calls prog 131 #[.int .u32 a15,.int .i64 18] W fun e w'=>e=.returned (.int .u32 (rotR 18 a15))/\Mod No W w' from fun W=>refturn_any a15 18 (by decide) (by decide) W);have R17:=zh (show ∀ W,Calls prog 131 #[.int .u32 a2,.int .i64 17] W fun e w'=>e=.returned (.int .u32 (rotR 17 a2))/\Mod No W w' from fun W=>refturn_any a2 17 (by decide) (by decide) W);have R19:=zh (show ∀ W,Calls prog 131 #[.int .u32 a2,.int .i64 19] W fun e w'=>e=.returned (.int .u32 (rotR 19 a2))/\Mod No W w' from fun W=>refturn_any a2 19 (by decide) (by decide) W);clear hg h16 h15 h7 h2 hk16 hk15 hk7 hk2 c16 c7;conv=>arg 2;whnf
 go_upto_region 15 with fail
 go_quiet (fail)
 generalize hw1:World.drewN w _=w1;have hm1:Mod No w w1:=by rw [<- hw1];exact (Mod.refl No w).drewN _
 have HM1:=zh hm1;clear hw1 hm1 c15 c2;go_upto_region 16 with fail
 obtain ⟨wA,hwA⟩:∃ y,y=w1.drew:=⟨_,rfl⟩
 have HWA:=zh hwA;have HMA:=zh (show Mod No w wA by rw [hwA];exact HM1.out.drew);have HG:=zh (HMA.out.keep HG0.out (fun f=>f));have C16:=zh (HMA.out.cell C16w.out (fun f=>f));have C7:=zh (HMA.out.cell C7w.out (fun f=>f));have hS0:=Mod.refl No wA;clear hwA HG0 C16w C7w;refine wp_region_T (fun w'=>Mod No wA w') 29 (by kernel_rfl) ?_;rw [<- HWA.out];refine yR 0 94 hS0 ?_;refine yR 1 95 hS0 ?_;refine wpAnyT_take 2 (some 96) (.int .i64 (k16:Int)) rfl rfl (by kernel_rfl) (fun _ _ _ h=>h) hS0 (Or.inl ⟨by rfl,?_⟩) ?_
 ·(intro w' hSw;go_simp;exact E16.out)
 simp only [Act.put,yB,yC,yD];refine yR 3 97 hS0 ?_;refine wpAnyT_take 4 (some 98) ?_ rfl rfl (by kernel_rfl) (fun _ _ _ h=>h) hS0 (Or.inl ⟨by rfl,?_⟩) ?_;rotate_left
 ·(intro w' hSw;have cc:=hSw.cell C16.out (fun f=>f);go_simp;try with_reducible rfl)
 simp only [Act.put,yB,yC,yD];refine yR 5 99 hS0 ?_;refine yR 7 101 hS0 ?_;refine yR 10 104 hS0 ?_;refine yR 11 105 hS0 ?_;refine yR 14 108 hS0 ?_;refine wpAnyT_take 15 (some 109) (.int .i64 (k7:Int)) rfl rfl (by kernel_rfl) (fun _ _ _ h=>h) hS0 (Or.inl ⟨by rfl,?_⟩) ?_
 ·(intro w' hSw;go_simp;exact E7.out)
 simp only [Act.put,yB,yC,yD];refine yR 16 110 hS0 ?_;refine wpAnyT_take 17 (some 111) ?_ rfl rfl (by kernel_rfl) (fun _ _ _ h=>h) hS0 (Or.inl ⟨by rfl,?_⟩) ?_;rotate_left
 ·(intro w' hSw;have cc:=hSw.cell C7.out (fun f=>f);go_simp;try with_reducible rfl)
 simp only [Act.put,yB,yC,yD];refine yR 19 113 hS0 ?_;refine yR 21 115 hS0 ?_;refine yR 24 118 hS0 ?_;refine yR 25 119 hS0 ?_;refine wpAnyT_one 6 rfl (by kernel_rfl) rfl ?_;intro K hK;go_simp
 go_at_call 131
 with_reducible refine (R7.out _).mono ?_
 rintro e x_6 ⟨rfl,hmx_6⟩;show K _ _
 have hS1:=Mod.trans hS0 hmx_6;refine hK.out _ _ (fun _=>hS1) ?_;clear hK K;refine wpAnyT_one 8 rfl (by kernel_rfl) rfl ?_;intro K hK;go_simp
 go_at_call 131
 with_reducible refine (R18.out _).mono ?_
 rintro e x_6_8 ⟨rfl,hmx_6_8⟩;show K _ _
 have hS2:=Mod.trans hS1 hmx_6_8;refine hK.out _ _ (fun _=>hS2) ?_;clear hK K;refine yR 9 103 hS2 ?_;refine yR 12 106 hS2 ?_;refine yR 13 107 hS2 ?_;refine yR 18 112 hS2 ?_;refine wpAnyT_one 20 rfl (by kernel_rfl) rfl ?_;intro K hK;go_simp
 go_at_call 131
 with_reducible refine (R17.out _).mono ?_
 rintro e x_6_8_20 ⟨rfl,hmx_6_8_20⟩;show K _ _
 have hS3:=Mod.trans hS2 hmx_6_8_20;refine hK.out _ _ (fun _=>hS3) ?_;clear hK K;refine wpAnyT_one 22 rfl (by kernel_rfl) rfl ?_;intro K hK;go_simp
 go_at_call 131
 with_reducible refine (R19.out _).mono ?_
 rintro e x_6_8_20_22 ⟨rfl,hmx_6_8_20_22⟩;show K _ _
 have hS4:=Mod.trans hS3 hmx_6_8_20_22;refine hK.out _ _ (fun _=>hS4) ?_;clear hK K;refine yR 23 117 hS4 ?_;refine yR 26 120 hS4 ?_;refine yR 27 121 hS4 ?_;refine yR 28 122 hS4 ?_;refine wpAnyT_one 29 rfl (by kernel_rfl) rfl ?_;intro K hK;have HG5:=zh (hS4.keep HG.out (fun f=>f));have cg:=cell_ofA HG5.out (wCells_new hws (by omega));have fg:=frozen_of i HG5.out;obtain ⟨w6,hw6⟩:∃ w6,w6=(x_6_8_20_22.setCell ⟨g,i,none⟩ (.int .u32 (nextW a16 a15 a7 a2))):=⟨_,rfl⟩
 have HR6:=zh (show w6.heap[g]? = some (.cells (wCells (ws++[nextW a16 a15 a7 a2])) 232 (0,0)) by rw [hw6,heap_setCell HG5.out,wCells_set hws (by omega)]);have HM6:=zh (show Mod (fun q=>q=g) wA w6 by rw [hw6];exact (((hS4.weaken fun _ _ f=>f.elim:Mod (fun q=>q=g) wA x_6_8_20_22)).setCell (p:=⟨g,i,none⟩) (fun _=>rfl) _));have HW6:=zh hw6;clear hw6;unfold nextW wd sg0 sg1 xo at HW6;go_simp
 rw [<- HW6.out];show K _ _
 refine hK.out _ _ (fun h=>absurd rfl h) ?_;clear hK K;refine wpAnyT_done (by kernel_rfl) ?_ _
 go_wp2_with fail
 exact Met.intro (hJ _ _ ⟨⟨rfl,rfl,rfl,rfl,rfl,rfl,rfl,rfl,rfl,trivial⟩,HR6.out,(HMA.out.weaken fun _ _ f=>f.elim:Mod (fun q=>q=g) w wA).trans HM6.out⟩)
def LpV (w0:World) (b:Nat->Int) (g:Nat) (v2 v3 v4 v5 v6:Value) (k:Nat) (a:Act) (w:World):Prop :=
 ∃ i,i+k=64/\16<=i/\Mod (fun q=>q=g) w0 w/\w.heap[g]? = some (.cells (wCells (wordsF b i)) 232 (0,0)) ∧
  Fr 259 [(2,v2),(3,v3),(4,v4),(5,v5),(6,v6),(7,.pointer (some ⟨g,0,none⟩)),(9,.int .i64 (i:Int))] a
theorem rwords_hi (b:Nat->Int) (g:Nat) (v2 v3 v4 v5 v6:Value) (f:Act) (w:World)
  (hg:w.heap[g]? = some (.cells (wCells (wordsF b 16)) 232 (0,0)))
  (hF:Fr 259 [(2,v2),(3,v3),(4,v4),(5,v5),(6,v6),(7,.pointer (some ⟨g,0,none⟩)),(9,.int .i64 16)] f) :
  Code.wp prog blkW4 (Exit.then (fun a' w'=>Fr 259 [(2,v2),(3,v3),(4,v4),(5,v5),(6,v6),(7,.pointer (some ⟨g,0,none⟩))] a'/\w'.heap[g]? = some (.cells (wCells (wordsF b 64)) 232 (0,0))/\Mod (fun q=>q=g) w w') Nope) f w:=by
 refine wp_part fun J K' hJ hK=>?_
 have H0:=zh (show LpV w b g v2 v3 v4 v5 v6 48 f w from ⟨16,rfl,Nat.le_refl _,Mod.refl _ w,hg,hF⟩);have HJ:=zh hJ;obtain ⟨w0,hw0⟩:∃ w0,w0=w:=⟨_,rfl⟩
 rw [<- hw0] at HJ H0;clear hF hJ hg;conv=>arg 2;whnf
 go_step
 refine wp_loop_ghost_k (LpV w0 b g v2 v3 v4 v5 v6) 48 (by rw [hw0] at H0 ⊢;exact H0.out) ?_;clear H0 hw0 f w;intro k f w hI J2 K2 hJ2 hK2;have HJ2:=zh hJ2;obtain ⟨i,hik,h16,hmod,hg,hF⟩:=hI;have HG:=zh hg;have HM:=zh hmod;clear hJ2 hg hmod;obtain ⟨ts,ds⟩:=f;obtain ⟨hsz,hds,hs2,hs3,hs4,hs5,hs6,hs7,hs9,-⟩:=hF;dsimp only at hsz hds hs2 hs3 hs4 hs5 hs6 hs7 hs9;subst hds;obtain ⟨c,rfl,hc⟩:=lit259 ts hsz;rw [hc] at hs2;rw [hc] at hs3;rw [hc] at hs4;rw [hc] at hs5;rw [hc] at hs6;rw [hc] at hs7;rw [hc] at hs9;simp only [hs2,hs3,hs4,hs5,hs6,hs7,hs9];clear hc hsz hs2 hs3 hs4 hs5 hs6 hs7 hs9;have hi0:(0:Int)<=(i:Int):=Int.natCast_nonneg _;by_cases hi:i < 64
 ·have hi64:(i:Int) < 64:=by omega
  go_upto_block 5 with fail
  rename_i K5 hK5;refine wp_only (rword_hi g i v2 v3 v4 v5 v6 _ _ _ _ _ _ w h16 hi (wordsF_length b i) HG.out (wordsF_at b (by omega)) (wordsF_at b (by omega)) (wordsF_at b (by omega)) (wordsF_at b (by omega)) ⟨rfl,rfl,rfl,rfl,rfl,rfl,rfl,rfl,rfl,trivial⟩) ?_;rintro a2 w2 ⟨hF,hg2,hm2⟩;rw [<- wordsF_hi b h16] at hg2;have HG2:=zh hg2;have HM2:=zh (HM.out.trans hm2);clear hg2 hm2 HG;refine hK5 _ _ ?_;obtain ⟨ts,ds⟩:=a2;obtain ⟨hsz,hds,hs2,hs3,hs4,hs5,hs6,hs7,hs9,-⟩:=hF;dsimp only at hsz hds hs2 hs3 hs4 hs5 hs6 hs7 hs9;subst hds;obtain ⟨c,rfl,hc⟩:=lit259 ts hsz;rw [hc] at hs2;rw [hc] at hs3;rw [hc] at hs4;rw [hc] at hs5;rw [hc] at hs6;rw [hc] at hs7;rw [hc] at hs9;simp only [hs2,hs3,hs4,hs5,hs6,hs7,hs9];clear hc hsz hs2 hs3 hs4 hs5 hs6 hs7 hs9;clear hK5 K5;go_wp2_with fail
  exact Handed.intro (k - 1) (by omega) (HJ2.out _ _ _ ⟨i+1,by omega,by omega,HM2.out,HG2.out,rfl,rfl,rfl,rfl,rfl,rfl,rfl,rfl,by go_num,trivial⟩)
 ·have hi64:i=64:=by omega
  subst hi64;go_wp2_with fail
  exact Met.intro (HJ.out _ _ ⟨⟨rfl,rfl,rfl,rfl,rfl,rfl,rfl,rfl,trivial⟩,HG.out,HM.out⟩)
theorem oneF_wd (e f g h k w:Int):wd (wd (wd (wd h (bigE e)) (chF e f g)) k) w=oneF e f g h k w:=by
 unfold oneF wd;generalize bigE e=b;generalize chF e f g=c;simp only [IntKind.wrap_u32];omega
theorem twoF_wd (a b c:Int):wd (bigA a) (majF a b c)=twoF a b c:=by
 unfold twoF wd;exact IntKind.wrap_u32 _
theorem rround_any (kb g i:Nat) (v2 v3 v5 v6:Value) (x0 x1 x2 x3 x4 x5 x6 x7 kk wv:Int) (KS ws:Array Value) (a:Act) (w:World) (hi:i < 64)
  (hq:w.heap[kb]? = some (.cells KS 232 (0,0))) (hk:KS[i]? = some (.int .u32 kk)) (hg:w.heap[g]? = some (.cells ws 232 (0,0))) (hw:ws[i]? = some (.int .u32 wv))
  (hF:Fr 259 [(2,v2),(3,v3),(4,.pointer (some ⟨kb,0,none⟩)),(5,v5),(6,v6),(7,.pointer (some ⟨g,0,none⟩)),(12,.int .u32 x0),(13,.int .u32 x1),(14,.int .u32 x2),(15,.int .u32 x3),(16,.int .u32 x4),(17,.int .u32 x5),(18,.int .u32 x6),(19,.int .u32 x7),(20,.int .i64 (i:Int))] a) :
  Code.wp prog blkW7 (Exit.then (fun a' w'=>Fr 259 [(2,v2),(3,v3),(4,.pointer (some ⟨kb,0,none⟩)),(5,v5),(6,v6),(7,.pointer (some ⟨g,0,none⟩)),(12,.int .u32 (wd (oneF x4 x5 x6 x7 kk wv) (twoF x0 x1 x2))),(13,.int .u32 x0),(14,.int .u32 x1),(15,.int .u32 x2),(16,.int .u32 (wd x3 (oneF x4 x5 x6 x7 kk wv))),(17,.int .u32 x4),(18,.int .u32 x5),(19,.int .u32 x6),(20,.int .i64 (i:Int))] a'/\Mod No w w') Nope) a w:=by
 refine wp_part fun J K' hJ hK=>?_
 obtain ⟨ts,ds⟩:=a;obtain ⟨hsz,hds,hs2,hs3,hs4,hs5,hs6,hs7,hs12,hs13,hs14,hs15,hs16,hs17,hs18,hs19,hs20,-⟩:=hF;dsimp only at hsz hds hs2 hs3 hs4 hs5 hs6 hs7 hs12 hs13 hs14 hs15 hs16 hs17 hs18 hs19 hs20;subst hds;obtain ⟨c,rfl,hc⟩:=lit259 ts hsz;rw [hc] at hs2;rw [hc] at hs3;rw [hc] at hs4;rw [hc] at hs5;rw [hc] at hs6;rw [hc] at hs7;rw [hc] at hs12;rw [hc] at hs13;rw [hc] at hs14;rw [hc] at hs15;rw [hc] at hs16;rw [hc] at hs17;rw [hc] at hs18;rw [hc] at hs19;rw [hc] at hs20;simp only [hs2,hs3,hs4,hs5,hs6,hs7,hs12,hs13,hs14,hs15,hs16,hs17,hs18,hs19,hs20];clear hc hsz hs2 hs3 hs4 hs5 hs6 hs7 hs12 hs13 hs14 hs15 hs16 hs17 hs18 hs19 hs20;have hi0:(0:Int)<=(i:Int):=Int.natCast_nonneg _;have hi64:(i:Int) < 64:=by omega
 have CK0:=zh (cell_ofA hq hk);have CW0:=zh (cell_ofA hg hw);have R6:=zh (show ∀ W,Calls prog 131 #[.int .u32 x4,.int .i64 6] W fun e w'=>e=.returned (.int .u32 (rotR 6 x4))/\Mod No W w' from fun W=>refturn_any x4 6 (by decide) (by decide) W);have R11:=zh (show ∀ W,Calls prog 131 #[.int .u32 x4,.int .i64 11] W fun e w'=>e=.returned (.int .u32 (rotR 11 x4))/\Mod No W w' from fun W=>refturn_any x4 11 (by decide) (by decide) W);have R25:=zh (show ∀ W,Calls prog 131 #[.int .u32 x4,.int .i64 25] W fun e w'=>e=.returned (.int .u32 (rotR 25 x4))/\Mod No W w' from fun W=>refturn_any x4 25 (by decide) (by decide) W);have R2:=zh (show ∀ W,Calls prog 131 #[.int .u32 x0,.int .i64 2] W fun e w'=>e=.returned (.int .u32 (rotR 2 x0))/\Mod No W w' from fun W=>refturn_any x0 2 (by decide) (by decide) W);have R13:=zh (show ∀ W,Calls prog 131 #[.int .u32 x0,.int .i64 13] W fun e w'=>e=.returned (.int .u32 (rotR 13 x0))/\Mod No W w' from fun W=>refturn_any x0 13 (by decide) (by decide) W);have R22:=zh (show ∀ W,Calls prog 131 #[.int .u32 x0,.int .i64 22] W fun e w'=>e=.returned (.int .u32 (rotR 22 x0))/\Mod No W w' from fun W=>refturn_any x0 22 (by decide) (by decide) W);obtain ⟨X,hX⟩:∃ X,X=oneF x4 x5 x6 x7 kk wv:=⟨_,rfl⟩
 obtain ⟨Y,hY⟩:∃ Y,Y=twoF x0 x1 x2:=⟨_,rfl⟩
 have EX:=zh (show wd (wd (wd (wd x7 (bigE x4)) (chF x4 x5 x6)) kk) wv=X by rw [hX,oneF_wd]);have EY:=zh (show wd (bigA x0) (majF x0 x1 x2)=Y by rw [hY,twoF_wd]);rw [<- hX,<- hY] at hJ;have HJ:=zh hJ;clear hX hY hq hk hg hw hJ;conv=>arg 2;whnf
 go_upto_region 21 with fail
 obtain ⟨wA,hwA⟩:∃ y,y=w.drew:=⟨_,rfl⟩
 have HWA:=zh hwA;have HMA:=zh (show Mod No w wA by rw [hwA];exact (Mod.refl No w).drew);have CK:=zh (HMA.out.cell CK0.out (fun f=>f));have CW:=zh (HMA.out.cell CW0.out (fun f=>f));have hS0:=Mod.refl No wA;clear hwA CK0 CW0;refine wp_region_T (fun w'=>Mod No wA w') 99 (by kernel_rfl) ?_;rw [<- HWA.out];refine yS 0 143 hS0 ?_;refine yS 1 144 hS0 ?_;refine yS 3 146 hS0 ?_;refine yS 6 149 hS0 ?_;refine yS 10 153 hS0 ?_;refine yS 11 154 hS0 ?_;refine yS 12 155 hS0 ?_;refine yS 13 156 hS0 ?_;refine yS 14 157 hS0 ?_;refine yS 15 158 hS0 ?_;refine yS 16 159 hS0 ?_;refine yS 17 160 hS0 ?_;refine yS 19 162 hS0 ?_;refine yS 20 163 hS0 ?_;refine yT 21 (some 164) ?_ hS0 ?_ ?_;rotate_left
 ·(intro w' hSw;have cc:=hSw.cell CK.out (fun f=>f);go_simp;try with_reducible rfl)
 simp only [Act.put,yB,yC,yD];refine yS 23 166 hS0 ?_;refine yS 24 167 hS0 ?_;refine yT 25 (some 168) ?_ hS0 ?_ ?_;rotate_left
 ·(intro w' hSw;have cc:=hSw.cell CW.out (fun f=>f);go_simp;try with_reducible rfl)
 simp only [Act.put,yB,yC,yD];refine wpAnyT_one 2 rfl (by kernel_rfl) rfl ?_;intro K hK;go_simp
 go_at_call 131
 with_reducible refine (R6.out _).mono ?_
 rintro e wA_2 ⟨rfl,hmwA_2⟩;show K _ _
 have hS1:=Mod.trans hS0 hmwA_2;refine hK.out _ _ (fun _=>hS1) ?_;clear hK K;refine wpAnyT_one 4 rfl (by kernel_rfl) rfl ?_;intro K hK;go_simp
 go_at_call 131
 with_reducible refine (R11.out _).mono ?_
 rintro e wA_2_4 ⟨rfl,hmwA_2_4⟩;show K _ _
 have hS2:=Mod.trans hS1 hmwA_2_4;refine hK.out _ _ (fun _=>hS2) ?_;clear hK K;refine yS 5 148 hS2 ?_;refine wpAnyT_one 7 rfl (by kernel_rfl) rfl ?_;intro K hK;go_simp
 go_at_call 131
 with_reducible refine (R25.out _).mono ?_
 rintro e wA_2_4_7 ⟨rfl,hmwA_2_4_7⟩;show K _ _
 have hS3:=Mod.trans hS2 hmwA_2_4_7;refine hK.out _ _ (fun _=>hS3) ?_;clear hK K;refine yS 8 151 hS3 ?_;refine yS 9 152 hS3 ?_;refine yS 18 161 hS3 ?_;refine yS 22 165 hS3 ?_;refine yT 26 (some 169) (.int .u32 X) hS3 ?_ ?_
 ·(intro w' hSw;go_simp;exact EX.out)
 simp only [Act.put,yB,yC,yD];refine yT 27 (some 21) ?_ hS3 ?_ ?_;rotate_left
 ·(intro w' hSw;go_simp;try with_reducible rfl)
 simp only [Act.put];refine wpAnyT_done (by kernel_rfl) ?_ _
 have HM1:=zh (HMA.out.trans hS3);clear hS0 hS1 hS2 hS3 HMA CK CW EX HWA R6 R11 R25;go_wp2_with fail
 with_reducible refine (R2.out _).mono ?_
 rintro e w2 ⟨rfl,hmw2⟩;have HMw2:=zh (HM1.out.trans hmw2);clear hmw2 HM1 R2;go_wp2_with fail
 with_reducible refine (R13.out _).mono ?_
 rintro e w3 ⟨rfl,hmw3⟩;have HMw3:=zh (HMw2.out.trans hmw3);clear hmw3 HMw2 R13;go_wp2_with fail
 with_reducible refine (R22.out _).mono ?_
 rintro e w4 ⟨rfl,hmw4⟩;have HMw4:=zh (HMw3.out.trans hmw4);clear hmw4 HMw3 R22;go_upto_region 23 with fail
 have hY2:(bits .xor .u32 (bits .xor .u32 (rotR 2 x0) (rotR 13 x0)) (rotR 22 x0)+bits .xor .u32 (bits .xor .u32 (bits .and .u32 x0 x1) (bits .and .u32 x0 x2)) (bits .and .u32 x1 x2)) % 4294967296=Y:=by rw [<- EY.out,twoF_wd];rfl
 rw [hY2];clear hY2;go_wp2_with fail
 have hJ:=HJ.out;have hwa:wd X Y=(X+Y) % 4294967296:=IntKind.wrap_u32 _;have hwb:wd x3 X=(x3+X) % 4294967296:=IntKind.wrap_u32 _;rw [hwa,hwb] at hJ;exact Met.intro (hJ _ _ ⟨⟨rfl,rfl,rfl,rfl,rfl,rfl,rfl,rfl,rfl,rfl,rfl,rfl,rfl,rfl,rfl,rfl,rfl,trivial⟩,HMw4.out⟩)
def LpY (w0:World) (kb g:Nat) (v2 v3 v5 v6:Value) (kws:List (Int × Int)) (fin:List Int) (k:Nat) (a:Act) (w:World):Prop :=
 ∃ i x0 x1 x2 x3 x4 x5 x6 x7,i+k=64/\(kws.drop i).foldl rndL [x0,x1,x2,x3,x4,x5,x6,x7]=fin/\Mod No w0 w ∧
  Fr 259 [(2,v2),(3,v3),(4,.pointer (some ⟨kb,0,none⟩)),(5,v5),(6,v6),(7,.pointer (some ⟨g,0,none⟩)),(12,.int .u32 x0),(13,.int .u32 x1),(14,.int .u32 x2),(15,.int .u32 x3),(16,.int .u32 x4),(17,.int .u32 x5),(18,.int .u32 x6),(19,.int .u32 x7),(20,.int .i64 (i:Int))] a
theorem rrounds_any (kb g:Nat) (v2 v3 v5 v6:Value) (x0 x1 x2 x3 x4 x5 x6 x7:Int) (ks ws:List Int) (f:Act) (w:World) (hkl:ks.length=64) (hwl:ws.length=64)
  (hq:w.heap[kb]? = some (.cells (c8 ks) 232 (0,0))) (hg:w.heap[g]? = some (.cells (wCells ws) 232 (0,0)))
  (hF:Fr 259 [(2,v2),(3,v3),(4,.pointer (some ⟨kb,0,none⟩)),(5,v5),(6,v6),(7,.pointer (some ⟨g,0,none⟩)),(12,.int .u32 x0),(13,.int .u32 x1),(14,.int .u32 x2),(15,.int .u32 x3),(16,.int .u32 x4),(17,.int .u32 x5),(18,.int .u32 x6),(19,.int .u32 x7),(20,.int .i64 0)] f) :
  Code.wp prog blkW6 (Exit.then (fun a' w'=>(∃ y0 y1 y2 y3 y4 y5 y6 y7,(ks.zip ws).foldl rndL [x0,x1,x2,x3,x4,x5,x6,x7]=[y0,y1,y2,y3,y4,y5,y6,y7]/\Fr 259 [(2,v2),(3,v3),(4,.pointer (some ⟨kb,0,none⟩)),(5,v5),(6,v6),(12,.int .u32 y0),(13,.int .u32 y1),(14,.int .u32 y2),(15,.int .u32 y3),(16,.int .u32 y4),(17,.int .u32 y5),(18,.int .u32 y6),(19,.int .u32 y7)] a')/\Mod No w w') Nope) f w:=by
 refine wp_part fun J K' hJ hK=>?_
 have H0:=zh (show LpY w kb g v2 v3 v5 v6 (ks.zip ws) ((ks.zip ws).foldl rndL [x0,x1,x2,x3,x4,x5,x6,x7]) 64 f w from ⟨0,x0,x1,x2,x3,x4,x5,x6,x7,rfl,rfl,Mod.refl _ w,hF⟩);have HQ:=zh (And.intro hq hg);have HJ:=zh hJ;obtain ⟨w0,hw0⟩:∃ w0,w0=w:=⟨_,rfl⟩
 rw [<- hw0] at HQ HJ H0;obtain ⟨fin,hfin⟩:∃ fin,fin=(ks.zip ws).foldl rndL [x0,x1,x2,x3,x4,x5,x6,x7]:=⟨_,rfl⟩
 rw [<- hfin] at HJ H0;clear hF hJ hg hq hfin;conv=>arg 2;whnf
 go_step
 refine wp_loop_ghost_k (LpY w0 kb g v2 v3 v5 v6 (ks.zip ws) fin) 64 (by rw [hw0] at H0 ⊢;exact H0.out) ?_;clear H0 hw0 f w x0 x1 x2 x3 x4 x5 x6 x7;intro k f w hI J2 K2 hJ2 hK2;have HJ2:=zh hJ2;obtain ⟨i,x0,x1,x2,x3,x4,x5,x6,x7,hik,hfo,hmod,hF⟩:=hI;have HM:=zh hmod;have HFO:=zh hfo;clear hJ2 hmod hfo;obtain ⟨ts,ds⟩:=f;obtain ⟨hsz,hds,hs2,hs3,hs4,hs5,hs6,hs7,hs12,hs13,hs14,hs15,hs16,hs17,hs18,hs19,hs20,-⟩:=hF;dsimp only at hsz hds hs2 hs3 hs4 hs5 hs6 hs7 hs12 hs13 hs14 hs15 hs16 hs17 hs18 hs19 hs20;subst hds;obtain ⟨c,rfl,hc⟩:=lit259 ts hsz;rw [hc] at hs2;rw [hc] at hs3;rw [hc] at hs4;rw [hc] at hs5;rw [hc] at hs6;rw [hc] at hs7;rw [hc] at hs12;rw [hc] at hs13;rw [hc] at hs14;rw [hc] at hs15;rw [hc] at hs16;rw [hc] at hs17;rw [hc] at hs18;rw [hc] at hs19;rw [hc] at hs20;simp only [hs2,hs3,hs4,hs5,hs6,hs7,hs12,hs13,hs14,hs15,hs16,hs17,hs18,hs19,hs20];clear hc hsz hs2 hs3 hs4 hs5 hs6 hs7 hs12 hs13 hs14 hs15 hs16 hs17 hs18 hs19 hs20;have hi0:(0:Int)<=(i:Int):=Int.natCast_nonneg _;by_cases hi:i < 64
 ·have hi64:(i:Int) < 64:=by omega
  have hk:=List.getElem?_eq_getElem (l:=ks) (i:=i) (by omega);have hw:=List.getElem?_eq_getElem (l:=ws) (i:=i) (by omega);have hd:(ks.zip ws).drop i=(ks[i],ws[i]) :: (ks.zip ws).drop (i+1):=by
   rw [List.drop_eq_getElem_cons (by rw [List.length_zip];omega),List.getElem_zip]
  generalize ks[i]=kk at *;generalize ws[i]=wv at *;have hk8:(c8 ks)[i]? = some (.int .u32 kk):=by unfold c8;rw [List.getElem?_toArray,List.getElem?_map,hk];rfl
  have HK:=zh (And.intro hk8 (And.intro hw hd));clear hk hw hd hk8;go_upto_block 7 with fail
  rename_i K5 hK5;refine wp_only (rround_any kb g i v2 v3 v5 v6 x0 x1 x2 x3 x4 x5 x6 x7 kk wv (c8 ks) (wCells ws) _ w hi (HM.out.keep HQ.out.1 (fun f=>f)) HK.out.1 (HM.out.keep HQ.out.2 (fun f=>f)) (wCells_old HK.out.2.1) ⟨rfl,rfl,rfl,rfl,rfl,rfl,rfl,rfl,rfl,rfl,rfl,rfl,rfl,rfl,rfl,rfl,rfl,trivial⟩) ?_;rintro a2 w2 ⟨hF,hm2⟩;have HM2:=zh (HM.out.trans hm2);clear hm2;refine hK5 _ _ ?_;obtain ⟨ts,ds⟩:=a2;obtain ⟨hsz,hds,hs2,hs3,hs4,hs5,hs6,hs7,hs12,hs13,hs14,hs15,hs16,hs17,hs18,hs19,hs20,-⟩:=hF;dsimp only at hsz hds hs2 hs3 hs4 hs5 hs6 hs7 hs12 hs13 hs14 hs15 hs16 hs17 hs18 hs19 hs20;subst hds;obtain ⟨c,rfl,hc⟩:=lit259 ts hsz;rw [hc] at hs2;rw [hc] at hs3;rw [hc] at hs4;rw [hc] at hs5;rw [hc] at hs6;rw [hc] at hs7;rw [hc] at hs12;rw [hc] at hs13;rw [hc] at hs14;rw [hc] at hs15;rw [hc] at hs16;rw [hc] at hs17;rw [hc] at hs18;rw [hc] at hs19;rw [hc] at hs20;simp only [hs2,hs3,hs4,hs5,hs6,hs7,hs12,hs13,hs14,hs15,hs16,hs17,hs18,hs19,hs20];clear hc hsz hs2 hs3 hs4 hs5 hs6 hs7 hs12 hs13 hs14 hs15 hs16 hs17 hs18 hs19 hs20;clear hK5 K5;go_wp2_with fail
  exact Handed.intro (k - 1) (by omega) (HJ2.out _ _ _ ⟨i+1,_,_,_,_,_,_,_,_,by omega,by have h1:=HFO.out;rw [HK.out.2.2] at h1;exact h1,HM2.out,rfl,rfl,rfl,rfl,rfl,rfl,rfl,rfl,rfl,rfl,rfl,rfl,rfl,rfl,rfl,rfl,by go_num,trivial⟩)
 ·have hi64:i=64:=by omega
  subst hi64;have hd:(ks.zip ws).drop 64=[]:=List.drop_eq_nil_of_le (by rw [List.length_zip];omega);have HX:=zh (show [x0,x1,x2,x3,x4,x5,x6,x7]=fin by have h1:=HFO.out;rw [hd] at h1;exact h1);clear hd;go_wp2_with fail
  exact Met.intro (HJ.out _ _ ⟨⟨_,_,_,_,_,_,_,_,HX.out.symm,rfl,rfl,rfl,rfl,rfl,rfl,rfl,rfl,rfl,rfl,rfl,rfl,rfl,rfl,rfl,trivial⟩,HM.out⟩)
noncomputable def blkW0:Code:=(blockAt 0 bodyW).getD .skip
noncomputable def blkW1:Code:=(blockAt 1 bodyW).getD .skip
theorem rblock_any (b:Nat->Int) (sb kb bb bo bn bc at':Nat) (v2:Value) (h:List Int) (f:Act) (w:World) (hh:h.length=8) (hn:at'+64<=bn) (hbn:bn<=281474976710656)
  (hs:w.heap[sb]? = some (.cells (c8 h) 231 (0,0))) (hk:w.heap[kb]? = some (.cells (c8 k0) 232 (0,0)))
  (hb:∀ k,k < 64->w.cell? ⟨bb,bo+(at'+k),none⟩=some (.int .u8 (b k)))
  (hF:Fr 259 [(2,v2),(3,.pointer (some ⟨sb,0,none⟩)),(4,.pointer (some ⟨kb,0,none⟩)),(5,.slice (some ⟨bb,bo,none⟩) bn bc),(6,.int .i64 (at':Int))] f) :
  Code.wp prog blkW1 (Exit.then (fun a' w'=>Fr 259 [(2,v2),(3,.pointer (some ⟨sb,0,none⟩)),(4,.pointer (some ⟨kb,0,none⟩)),(5,.slice (some ⟨bb,bo,none⟩) bn bc),(6,.int .i64 (at':Int))] a'/\w'.heap[sb]? = some (.cells (c8 (blockF k0 b h)) 231 (0,0))/\Mod (fun p=>p=sb) w w') Nope) f w:=by
 refine wp_part fun J K' hJ hK=>?_
 have HB:=zh hb;have HS:=zh hs;have HK:=zh hk;have HJ:=zh hJ;clear hb hs hk hJ;obtain ⟨ts,ds⟩:=f;obtain ⟨hsz,hds,hs2,hs3,hs4,hs5,hs6,-⟩:=hF;dsimp only at hsz hds hs2 hs3 hs4 hs5 hs6;subst hds;obtain ⟨c,rfl,hc⟩:=lit259 ts hsz;rw [hc] at hs2;rw [hc] at hs3;rw [hc] at hs4;rw [hc] at hs5;rw [hc] at hs6;simp only [hs2,hs3,hs4,hs5,hs6];clear hc hsz hs2 hs3 hs4 hs5 hs6;conv=>arg 2;whnf
 go_upto_block 2 with fail
 rename_i K5 hK5;obtain ⟨g,hg⟩:∃ g,g=w.heap.size:=⟨_,rfl⟩
 have hsl:=lt_of_heap HS.out;have hkl:=lt_of_heap HK.out;have hbl:=lt_of_cell (HB.out 0 (by omega));dsimp only at hbl;have hsg:sb ≠ g:=by omega
 have hkg:kb ≠ g:=by omega
 have hbg:bb ≠ g:=by omega
 rw [<- hg];have hg1:(w.alloc (.cells (wCells []) 232)).heap[g]? = some (.cells (wCells []) 232 (0,0)):=by rw [hg];exact heap_alloc_new w _
 have hm1:Mod No w (w.alloc (.cells (wCells []) 232)):=(Mod.refl No w).alloc _;have HGN:=zh (show w.heap.size<=g by omega);refine wp_only (rwords_lo b bb bo bn bc g at' v2 (.pointer (some ⟨sb,0,none⟩)) (.pointer (some ⟨kb,0,none⟩)) _ (w.alloc (.cells (wCells []) 232)) hn hbn hbg (fun k hk=>hm1.cell (HB.out k hk) (fun f=>f)) hg1 ⟨rfl,rfl,rfl,rfl,rfl,rfl,rfl,rfl,rfl,trivial⟩) ?_;rintro a2 w2 ⟨hF,hg2,hm2⟩;have HG2:=zh hg2;have HM2:=zh (hm1.then hm2 (S:=No) (fun i hi e=>absurd hi (by have:=HGN.out;omega)));refine hK5 _ _ ?_;clear hg2 hm2 hm1 hg1 hK5 K5 hg hsl hkl hbl HB;obtain ⟨ts,ds⟩:=a2;obtain ⟨hsz,hds,hs2,hs3,hs4,hs5,hs6,hs7,-⟩:=hF;dsimp only at hsz hds hs2 hs3 hs4 hs5 hs6 hs7;subst hds;obtain ⟨c,rfl,hc⟩:=lit259 ts hsz;rw [hc] at hs2;rw [hc] at hs3;rw [hc] at hs4;rw [hc] at hs5;rw [hc] at hs6;rw [hc] at hs7;simp only [hs2,hs3,hs4,hs5,hs6,hs7];clear hc hsz hs2 hs3 hs4 hs5 hs6 hs7;go_upto_block 4 with fail
 rename_i K5 hK5;refine wp_only (rwords_hi b g v2 (.pointer (some ⟨sb,0,none⟩)) (.pointer (some ⟨kb,0,none⟩)) (.slice (some ⟨bb,bo,none⟩) bn bc) (.int .i64 (at':Int)) _ w2 HG2.out ⟨rfl,rfl,rfl,rfl,rfl,rfl,rfl,rfl,rfl,trivial⟩) ?_;rintro a3 w3 ⟨hF,hg3,hm3⟩;have HG3:=zh hg3;have HM3:=zh (HM2.out.then hm3 (S:=No) (fun i hi e=>absurd hi (by have:=HGN.out;omega)));have HS3:=zh (HM3.out.keep HS.out (fun f=>f));have HK3:=zh (HM3.out.keep HK.out (fun f=>f));refine hK5 _ _ ?_;clear hg3 hm3 hK5 K5 HG2 HM2;obtain ⟨ts,ds⟩:=a3;obtain ⟨hsz,hds,hs2,hs3,hs4,hs5,hs6,hs7,-⟩:=hF;dsimp only at hsz hds hs2 hs3 hs4 hs5 hs6 hs7;subst hds;obtain ⟨c,rfl,hc⟩:=lit259 ts hsz;rw [hc] at hs2;rw [hc] at hs3;rw [hc] at hs4;rw [hc] at hs5;rw [hc] at hs6;rw [hc] at hs7;simp only [hs2,hs3,hs4,hs5,hs6,hs7];clear hc hsz hs2 hs3 hs4 hs5 hs6 hs7;obtain ⟨z0,z1,z2,z3,z4,z5,z6,z7,rfl⟩:=len8 hh;have c0:=cell_ofA (i:=0) HS3.out (v:=.int .u32 z0) rfl;have c1:=cell_ofA (i:=1) HS3.out (v:=.int .u32 z1) rfl;have c2:=cell_ofA (i:=2) HS3.out (v:=.int .u32 z2) rfl;have c3:=cell_ofA (i:=3) HS3.out (v:=.int .u32 z3) rfl;have c4:=cell_ofA (i:=4) HS3.out (v:=.int .u32 z4) rfl;have c5:=cell_ofA (i:=5) HS3.out (v:=.int .u32 z5) rfl;have c6:=cell_ofA (i:=6) HS3.out (v:=.int .u32 z6) rfl;have c7:=cell_ofA (i:=7) HS3.out (v:=.int .u32 z7) rfl;clear hh;go_upto_region 17 with fail
 go_quiet (fail)
 generalize hw4:World.drewN w3 _=w4;have hm4:Mod No w3 w4:=by rw [<- hw4];exact (Mod.refl No w3).drewN _
 have HM4:=zh (HM3.out.trans hm4);have HS4:=zh (hm4.keep HS3.out (fun f=>f));have HK4:=zh (hm4.keep HK3.out (fun f=>f));have HG4:=zh (hm4.keep HG3.out (fun f=>f));clear hw4 hm4 HS3 HK3 HG3 HM3 c0 c1 c2 c3 c4 c5 c6 c7;go_upto_block 6 with fail
 rename_i K5 hK5;refine wp_only (rrounds_any kb g v2 (.pointer (some ⟨sb,0,none⟩)) (.slice (some ⟨bb,bo,none⟩) bn bc) (.int .i64 (at':Int)) z0 z1 z2 z3 z4 z5 z6 z7 k0 (wordsF b 64) _ w4 rfl (wordsF_length b 64) HK4.out HG4.out ⟨rfl,rfl,rfl,rfl,rfl,rfl,rfl,rfl,rfl,rfl,rfl,rfl,rfl,rfl,rfl,rfl,rfl,trivial⟩) ?_;rintro a5 w5 ⟨⟨y0,y1,y2,y3,y4,y5,y6,y7,hfo,hF⟩,hm5⟩;have HM5:=zh (HM4.out.trans hm5);have HS5:=zh (hm5.keep HS4.out (fun f=>f));have HFO:=zh (show blockF k0 b [z0,z1,z2,z3,z4,z5,z6,z7]=[((z0+y0) % 4294967296),((z1+y1) % 4294967296),((z2+y2) % 4294967296),((z3+y3) % 4294967296),((z4+y4) % 4294967296),((z5+y5) % 4294967296),((z6+y6) % 4294967296),((z7+y7) % 4294967296)] by
  unfold blockF;rw [hfo];simp only [List.zipWith_cons_cons,List.zipWith_nil_left,wd,IntKind.wrap_u32])
 refine hK5 _ _ ?_;clear hfo hm5 hK5 K5 HS4 HK4 HG4 HM4;obtain ⟨ts,ds⟩:=a5;obtain ⟨hsz,hds,hs2,hs3,hs4,hs5,hs6,hs12,hs13,hs14,hs15,hs16,hs17,hs18,hs19,-⟩:=hF;dsimp only at hsz hds hs2 hs3 hs4 hs5 hs6 hs12 hs13 hs14 hs15 hs16 hs17 hs18 hs19;subst hds;obtain ⟨c,rfl,hc⟩:=lit259 ts hsz;rw [hc] at hs2;rw [hc] at hs3;rw [hc] at hs4;rw [hc] at hs5;rw [hc] at hs6;rw [hc] at hs12;rw [hc] at hs13;rw [hc] at hs14;rw [hc] at hs15;rw [hc] at hs16;rw [hc] at hs17;rw [hc] at hs18;rw [hc] at hs19;simp only [hs2,hs3,hs4,hs5,hs6,hs12,hs13,hs14,hs15,hs16,hs17,hs18,hs19];clear hc hsz hs2 hs3 hs4 hs5 hs6 hs12 hs13 hs14 hs15 hs16 hs17 hs18 hs19;have c0:=cell_ofA (i:=0) HS5.out (v:=.int .u32 z0) rfl;have f0:=frozen_of 0 HS5.out;have c1:=cell_ofA (i:=1) HS5.out (v:=.int .u32 z1) rfl;have f1:=frozen_of 1 HS5.out;have c2:=cell_ofA (i:=2) HS5.out (v:=.int .u32 z2) rfl;have f2:=frozen_of 2 HS5.out;have c3:=cell_ofA (i:=3) HS5.out (v:=.int .u32 z3) rfl;have f3:=frozen_of 3 HS5.out;go_upto_region 25 with fail
 obtain ⟨w6,hw6⟩:∃ y,y=((((w5.setCell ⟨sb,0,none⟩ (.int .u32 ((z0+y0) % 4294967296))).setCell ⟨sb,1,none⟩ (.int .u32 ((z1+y1) % 4294967296))).setCell ⟨sb,2,none⟩ (.int .u32 ((z2+y2) % 4294967296))).setCell ⟨sb,3,none⟩ (.int .u32 ((z3+y3) % 4294967296))):=⟨_,rfl⟩
 have HS6:=zh (show w6.heap[sb]? = some (.cells #[.int .u32 ((z0+y0) % 4294967296),.int .u32 ((z1+y1) % 4294967296),.int .u32 ((z2+y2) % 4294967296),.int .u32 ((z3+y3) % 4294967296),.int .u32 z4,.int .u32 z5,.int .u32 z6,.int .u32 z7] 231 (0,0)) by rw [hw6,heap_setCell (heap_setCell (heap_setCell (heap_setCell HS5.out _) _) _) _];rfl);have HM6:=zh (show Mod (fun p=>p=sb) w w6 by rw [hw6];exact (((((HM5.out.weaken fun _ _ f=>f.elim:Mod (fun p=>p=sb) w w5).setCell (fun _=>rfl) _).setCell (fun _=>rfl) _).setCell (fun _=>rfl) _).setCell (fun _=>rfl) _));rw [<- hw6];clear hw6 HM5 HS5 c0 c1 c2 c3 f0 f1 f2 f3;have c4:=cell_ofA (i:=4) HS6.out (v:=.int .u32 z4) rfl;have f4:=frozen_of 4 HS6.out;have c5:=cell_ofA (i:=5) HS6.out (v:=.int .u32 z5) rfl;have f5:=frozen_of 5 HS6.out;have c6:=cell_ofA (i:=6) HS6.out (v:=.int .u32 z6) rfl;have f6:=frozen_of 6 HS6.out;have c7:=cell_ofA (i:=7) HS6.out (v:=.int .u32 z7) rfl;have f7:=frozen_of 7 HS6.out;go_wp2_with fail
 exact Met.intro (HJ.out _ _ ⟨⟨rfl,rfl,rfl,rfl,rfl,rfl,rfl,trivial⟩,by rw [HFO.out,heap_setCell (heap_setCell (heap_setCell (heap_setCell HS6.out _) _) _) _];rfl,(((HM6.out.setCell (fun _=>rfl) _).setCell (fun _=>rfl) _).setCell (fun _=>rfl) _).setCell (fun _=>rfl) _⟩)
def LpBk (w0:World) (b:Nat->Int) (sb kb bb bo n bc:Nat) (v2:Value) (k:Nat) (a:Act) (w:World):Prop :=
 ∃ i at',i+k=n/\at'=64*i/\Mod (fun p=>p=sb) w0 w/\w.heap[sb]? = some (.cells (c8 (runF k0 i b h0)) 231 (0,0)) ∧
  Fr 259 [(2,v2),(3,.pointer (some ⟨sb,0,none⟩)),(4,.pointer (some ⟨kb,0,none⟩)),(5,.slice (some ⟨bb,bo,none⟩) (64*n:Nat) bc),(6,.int .i64 (at':Int))] a
theorem rblocks_any (b:Nat->Int) (sb kb bb bo n bc:Nat) (v2:Value) (f:Act) (w:World) (hn:n<=4398046511104) (hbs:bb ≠ sb) (hks:kb ≠ sb)
  (hs:w.heap[sb]? = some (.cells (c8 h0) 231 (0,0))) (hk:w.heap[kb]? = some (.cells (c8 k0) 232 (0,0)))
  (hb:∀ k,k < 64*n->w.cell? ⟨bb,bo+k,none⟩=some (.int .u8 (b k)))
  (hF:Fr 259 [(2,v2),(3,.pointer (some ⟨sb,0,none⟩)),(4,.pointer (some ⟨kb,0,none⟩)),(5,.slice (some ⟨bb,bo,none⟩) (64*n:Nat) bc),(6,.int .i64 0)] f) :
  Code.wp prog blkW0 (Exit.then (fun a' w'=>Fr 259 [(2,v2),(3,.pointer (some ⟨sb,0,none⟩))] a'/\w'.heap[sb]? = some (.cells (c8 (runF k0 n b h0)) 231 (0,0))/\Mod (fun p=>p=sb) w w') Nope) f w:=by
 refine wp_part fun J K' hJ hK=>?_
 have H0:=zh (show LpBk w b sb kb bb bo n bc v2 n f w from ⟨0,0,by omega,rfl,Mod.refl _ w,hs,hF⟩);have HJ:=zh hJ;have HB:=zh hb;have HKB:=zh hk;obtain ⟨w0,hw0⟩:∃ w0,w0=w:=⟨_,rfl⟩
 rw [<- hw0] at HJ H0 HB HKB;clear hF hJ hs hk hb;conv=>arg 2;whnf
 go_step
 refine wp_loop_ghost_k (LpBk w0 b sb kb bb bo n bc v2) n (by rw [hw0] at H0 ⊢;exact H0.out) ?_;clear H0 hw0 f w;intro k f w hI J2 K2 hJ2 hK2;have HJ2:=zh hJ2;obtain ⟨i,at',hik,hat,hmod,hs,hF⟩:=hI;have HS:=zh hs;have HM:=zh hmod;obtain ⟨bn,hbn⟩:∃ bn,bn=64*n:=⟨_,rfl⟩
 rw [<- hbn] at hF;have HBN:=zh hbn;have HAT:=zh hat;clear hJ2 hs hmod hbn hat;obtain ⟨ts,ds⟩:=f;obtain ⟨hsz,hds,hs2,hs3,hs4,hs5,hs6,-⟩:=hF;dsimp only at hsz hds hs2 hs3 hs4 hs5 hs6;subst hds;obtain ⟨c,rfl,hc⟩:=lit259 ts hsz;rw [hc] at hs2;rw [hc] at hs3;rw [hc] at hs4;rw [hc] at hs5;rw [hc] at hs6;simp only [hs2,hs3,hs4,hs5,hs6];clear hc hsz hs2 hs3 hs4 hs5 hs6;have hi0:(0:Int)<=(at':Int):=Int.natCast_nonneg _;by_cases hi:i < n
 ·have hlt:(at':Int) < (bn:Int):=by have:=HBN.out;have:=HAT.out;omega
  have hle:at'+64<=bn:=by have:=HBN.out;have:=HAT.out;omega
  have hbig:bn<=281474976710656:=by have:=HBN.out;omega
  have HLE:=zh (And.intro hle hbig);clear hle hbig;go_upto_block 1 with fail
  rename_i K5 hK5;refine wp_only (rblock_any (fun k=>b (64*i+k)) sb kb bb bo bn bc at' v2 (runF k0 i b h0) _ w (runF_length _ _ _ _ rfl) HLE.out.1 HLE.out.2 HS.out (HM.out.keep HKB.out hks) (fun k hk=>by rw [HAT.out];exact HM.out.cell (HB.out _ (by omega)) hbs) ⟨rfl,rfl,rfl,rfl,rfl,rfl,rfl,trivial⟩) ?_;rintro a2 w2 ⟨hF,hs2,hm2⟩;rw [<- runF_last i b h0] at hs2;have HS2:=zh hs2;have HM2:=zh (HM.out.trans hm2);clear hs2 hm2 HS;refine hK5 _ _ ?_;obtain ⟨ts,ds⟩:=a2;obtain ⟨hsz,hds,hs2,hs3,hs4,hs5,hs6,-⟩:=hF;dsimp only at hsz hds hs2 hs3 hs4 hs5 hs6;subst hds;obtain ⟨c,rfl,hc⟩:=lit259 ts hsz;rw [hc] at hs2;rw [hc] at hs3;rw [hc] at hs4;rw [hc] at hs5;rw [hc] at hs6;simp only [hs2,hs3,hs4,hs5,hs6];clear hc hsz hs2 hs3 hs4 hs5 hs6;clear hK5 K5;obtain ⟨at2,hat2⟩:∃ at2,at2=at'+64:=⟨_,rfl⟩
  have EA:=zh (show IntKind.i64.wrap ((at':Int)+64)=(at2:Int) by rw [IntKind.wrap_i64];have:=HLE.out;omega);have HA2:=zh (show at2=64*(i+1) by rw [hat2,HAT.out];omega);have eA:(at':Int)+64=(at2:Int):=by omega
  have bA:(at2:Int)<=281474976710720:=by have:=HLE.out;omega
  have bB:(0:Int)<=(at2:Int):=Int.natCast_nonneg _;clear hat2;go_wp2_with fail
  exact Handed.intro (k - 1) (by omega) (HJ2.out _ _ _ ⟨i+1,at2,by omega,HA2.out,HM2.out,HS2.out,rfl,rfl,rfl,rfl,rfl,by rw [<- HBN.out];rfl,by rfl,trivial⟩)
 ·have hlt:¬ (at':Int) < (bn:Int):=by have:=HBN.out;have:=HAT.out;omega
  obtain rfl:i=n:=by omega
  go_wp2_with fail
  exact Met.intro (HJ.out _ _ ⟨⟨rfl,rfl,rfl,rfl,trivial⟩,HS.out,HM.out⟩)
end Go.Proofs.YticfcmdjplmaeaaGreatDoor
