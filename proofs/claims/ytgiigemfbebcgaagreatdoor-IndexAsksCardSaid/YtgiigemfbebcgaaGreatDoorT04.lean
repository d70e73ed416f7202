/-
  Layers 0 to 14: helps of the laws of indexes. No statement is proved here; no condition.
-/
import Derived.Test.YtgiigemfbebcgaaGreatDoorT03
import Derived.Test.YtgiigemfbebcgaaGreatDoorT02
import Derived.Test.YtgiigemfbebcgaaGreatDoorT01
namespace Go.Proofs.YtgiigemfbebcgaaGreatDoor
open _root_.Go.Proofs.Tryz
open Go.RowKit
def hexD (c:UInt8):Option Nat:=if dig c then some (c.toNat - 48) else if 97<=c.toNat/\c.toNat<=102 then some (c.toNat - 87) else none
def unhexL:List UInt8->Option (List UInt8)
 | []=>some []
 | [_]=>none
 | a :: b :: l=>match hexD a,hexD b,unhexL l with
  | some x,some y,some r=>some (UInt8.ofNat (16*x+y) :: r)
  | _,_,_=>none
def sumL (l:List UInt8):Option (List UInt8):=if l.length=64 then unhexL l else none
def atL (l:List Rw) (name:List UInt8) (v:Ver):Option Nat:=l.findIdx? fun r=>decide (r.name=name) && decide (verC r.v v=0)
def rowL (a b c d:List UInt8):Option Rw:=if nameB a=true then (verOf b).bind fun v=>(sumL c).bind fun k=>(sizeL d).map fun n=>⟨a,v,k,n,[]⟩ else none
def packL (st:List Rw) (s:List UInt8):Option (List Rw):=match splitC 32 s with
 | [a,b,c,d]=>(rowL a b c d).bind fun r=>if (atL st r.name r.v).isSome\/200<=st.length then none else some (st++[r])
 | _=>none
theorem begin_iff {c:UInt8} {t s:List UInt8} (ht:∀ d ∈ t,d ≠ c):s.take (t.length+1)=t++[c] ↔ headC c s=t/\c ∈ s:=by
 constructor
 ·intro h
  have e:s=t++c :: s.drop (t.length+1):=by
   conv=>lhs;rw [<- List.take_append_drop (t.length+1) s,h]
   simp
  rw [e]
  exact ⟨headC_hit _ ht,by simp⟩
 ·rintro ⟨h1,h2⟩
  obtain ⟨a,b,rfl,ha⟩:=first_place h2
  rw [headC_hit _ ha] at h1
  subst h1
  rw [List.take_append,List.take_of_length_le (by omega)]
  simp
theorem begin_tail {c:UInt8} {t s:List UInt8} (ht:∀ d ∈ t,d ≠ c) (h:s.take (t.length+1)=t++[c]):s=t++c :: s.drop (t.length+1)/\tailC c s=s.drop (t.length+1)/\splitC c s=t :: splitC c (s.drop (t.length+1)):=by
 have e:s=t++c :: s.drop (t.length+1):=by
  conv=>lhs;rw [<- List.take_append_drop (t.length+1) s,h]
  simp
 refine ⟨e,?_,?_⟩
 ·conv=>lhs;rw [e]
  exact tailC_hit _ ht
 ·conv=>lhs;rw [e]
  exact splitC_hit _ ht
def packT:List UInt8:=[112,97,99,107]
def needT:List UInt8:=[110,101,101,100]
theorem pack_no:∀ d ∈ packT,d ≠ 32:=by decide
theorem need_no:∀ d ∈ needT,d ≠ 32:=by decide
def ltNd (x y:Nd):Bool:=decide (x.name < y.name)
def wantL (st:List Rw) (s:List UInt8):Option (List Rw):=match st.getLast? with
 | none=>none
 | some r=>(needL s).bind fun n=>if n.name=r.name\/n.name ∈ r.needs.map Nd.name\/20<=r.needs.length then none else some (st.dropLast++[{ r with needs:=insR (ltNd n) n r.needs }])
def lineL (st:List Rw) (s:List UInt8):Option (List Rw) :=
 if s.take 5=packT++[32] then packL st (s.drop 5) else if s.take 5=needT++[32] then wantL st (s.drop 5) else none
def goL:List Rw->Nat->List (List UInt8)->List Rw ⊕ Nat
 | st,_,[]=>.inl st
 | st,i,s :: ls=>if silentB s then goL st (i+1) ls else match lineL st s with
  | none=>.inr (i+1)
  | some st'=>goL st' (i+1) ls
def indexL (l:List UInt8):List Rw ⊕ Nat:=if 65536 < l.length then .inr 0 else goL [] 0 (linesL l)
noncomputable def bodyP:Code:=Tryz.f100.body.getD .skip
noncomputable def blkP0:Code:=(blockAt 0 bodyP).getD .skip
set_option maxRecDepth 100000 in
theorem lit34 (t:Array Value) (h:t.size=34):∃ c:Nat->Value,t=#[c 0,c 1,c 2,c 3,c 4,c 5,c 6,c 7,c 8,c 9,c 10,c 11,c 12,c 13,c 14,c 15,c 16,c 17,c 18,c 19,c 20,c 21,c 22,c 23,c 24,c 25,c 26,c 27,c 28,c 29,c 30,c 31,c 32,c 33]/\∀ i,t.getD i undef=c i:=by
 refine ⟨fun i=>t.getD i undef,?_,fun _=>rfl⟩
 have h1:=arr_lits t
 rw [h] at h1
 exact h1.trans (by kernel_rfl)
def LpZ (w0:World) (base:Nat) (l:List UInt8) (z:Nat) (v0:Value) (k:Nat) (a:Act) (w:World):Prop :=
 ∃ j v,j+k=z/\Mod (fun p=>base<=p) w0 w/\base<=w.heap.size/\w.ownsRow base 5 1 v (l.length+1+j) (bv (l++128 :: List.replicate j 0))/\Fr 34 [(0,v0),(3,v)] a
set_option maxRecDepth 100000 in
set_option maxHeartbeats 4000000 in
theorem zeros_any (base:Nat) (l:List UInt8) (v0 v:Value) (f:Act) (w:World) (hl:l.length<=70368744177664) (hb:base<=w.heap.size) (hv:w.ownsRow base 5 1 v (l.length+1) (bv (l++[128])))
  (hF:Fr 34 [(0,v0),(3,v)] f) :
  Code.wp prog blkP0 (Exit.then (fun a' w'=>(∃ v',Fr 34 [(0,v0),(3,v')] a'/\w'.ownsRow base 5 1 v' (l.length+1+(64*lastN l - 9 - l.length % 64)) (bv (l++128 :: List.replicate (64*lastN l - 9 - l.length % 64) 0)))/\base<=w'.heap.size/\Mod (fun p=>base<=p) w w') Nope) f w:=by
 refine wp_part fun J K' hJ hK=>?_
 obtain ⟨i0,hi,hz0,hz1,hz2⟩:=info_parts info_byte
 have HI:=zh (And.intro hi (And.intro hz0 (And.intro hz1 hz2)))
 clear hi hz0 hz1 hz2
 obtain ⟨z,hz⟩:∃ z,z=64*lastN l - 9 - l.length % 64:=⟨_,rfl⟩
 rw [<- hz] at hJ
 have H0:=zh (show LpZ w base l z v0 z f w from ⟨0,v,by omega,Mod.refl _ w,hb,hv,hF⟩)
 have HJ:=zh hJ
 obtain ⟨w0,hw0⟩:∃ w0,w0=w:=⟨_,rfl⟩
 rw [<- hw0] at HJ H0
 clear hF hJ hv
 have hmod:∀ j,j<=z->((l.length+1+j) % 64=56 ↔ j=z):=fun j hj=>by
  have h1:=lastN_le l
  have h2:lastN l=if 64 < l.length % 64+9 then 2 else 1:=rfl
  split at h2 <;> omega
 have HMO:=zh hmod
 clear hmod
 have hz64:z<=128:=by have:=lastN_le2 l;omega
 clear hz
 conv=>arg 2;whnf
 go_step
 refine wp_loop_ghost_k (LpZ w0 base l z v0) z (by rw [hw0] at H0 ⊢;exact H0.out) ?_
 clear H0 hw0 hb f w v
 intro k f w hI J2 K2 hJ2 hK2
 have HJ2:=zh hJ2
 obtain ⟨j,v,hjk,hmod,hb,hown,hF⟩:=hI
 have HO:=zh hown
 have HM:=zh hmod
 have HB:=zh hb
 obtain ⟨n,hn⟩:∃ n,n=l.length+1+j:=⟨_,rfl⟩
 rw [<- hn] at HO hown
 obtain ⟨va,vc,rfl⟩:=(Sl.of_own hown (X:=No) (fun _ _ f=>f)).len
 clear hJ2 hmod hb hown
 obtain ⟨ts,ds⟩:=f
 obtain ⟨hsz,hds,hs0,hs3,-⟩:=hF
 dsimp only at hsz hds hs0 hs3
 subst hds
 obtain ⟨c,rfl,hc⟩:=lit34 ts hsz
 rw [hc] at hs0
 rw [hc] at hs3
 simp only [hs0,hs3]
 clear hc hsz hs0 hs3
 have hn0:(0:Int)<=(n:Int):=Int.natCast_nonneg _
 obtain ⟨r,hr⟩:∃ r,r=n % 64:=⟨_,rfl⟩
 have q1:(n:Int) % 64=(r:Int):=by omega
 have q2:Int.tmod (n:Int) 64=(r:Int):=by rw [Int.tmod_eq_emod_of_nonneg hn0];exact q1
 have hmj:=HMO.out j (by omega)
 rw [<- hn,<- hr] at hmj
 have HN:=zh (And.intro hn hr)
 clear hn hr
 by_cases hi:j < z
 ·have hr56:¬ ((r:Int)=56):=by omega
  obtain ⟨w1,hw1⟩:∃ w1,w1=w.alloc (.cells #[.int .u8 0] 5):=⟨_,rfl⟩
  have hm1:Mod No w w1:=by rw [hw1];exact (Mod.refl No w).alloc _
  have hg1:w1.heap[w.heap.size]? = some (.cells #[.int .u8 0] 5 (0,0)):=by rw [hw1];exact heap_alloc_new w _
  have HS:=zh (show Sl w1 No 5 (.slice (some ⟨w.heap.size,0,none⟩) 1 1) 1 [.int .u8 0] from .inr ⟨w.heap.size,0,1,_,_,rfl,Nat.le_refl _,by unfold maxLen;omega,fun f=>f,hg1,by simp,fun i hi=>by simp at hi;subst hi;rfl⟩)
  have HO1:=zh (own_keepM HO.out hm1 (fun _ _ f=>f))
  have HB1:=zh (Nat.le_trans HB.out hm1.size)
  have HM1:=zh hm1
  have HW1:=zh hw1
  obtain ⟨hi,hz0,hz1,hz2⟩:=HI.out
  have HNL:=zh (show n+1<=140737488355328 by have:=HN.out.1;omega)
  clear hm1 hg1 hw1 hmj
  go_wp2_with (rw [<- HW1.out];at_builtin;refine app_sl _ rfl _ _ 29 rfl base 5 i0 (.int .u8 0) 1 1 underlying29 hi hz0 hz1 hz2 rfl (by decide) (.slice va n vc) n _ rfl HO1.out No 5 _ 1 [.int .u8 0] rfl HS.out rfl (by simp [Value.oneCell']) (by have:=HNL.out;unfold maxLen;omega) (by have:=HNL.out;omega) HB1.out ?_;intro v3 w3 hown hg hiff;have HO3:=zh (And.intro hown hg);clear hown hg hiff)
  have hm3:Mod (fun p=>base<=p) w1 w3:=Mod.of_grown HO3.out.2 (fun k e _=>(HO1.out.lt _ e).1)
  have hmm:Mod (fun p=>base<=p) w0 w3:=HM.out.trans ((HM1.out.weaken fun _ _ f=>f.elim:Mod (fun p=>base<=p) w w1).trans hm3)
  exact Handed.intro (k - 1) (by omega) (HJ2.out _ _ _ ⟨j+1,v3,by omega,hmm,Nat.le_trans HB1.out hm3.size,by
   have h1:=HO3.out.1
   rw [show l.length+1+(j+1)=n+1 by have:=HN.out.1;omega,List.replicate_succ',<- List.cons_append,<- List.append_assoc,bv_append]
   exact h1,rfl,rfl,rfl,rfl,trivial⟩)
 ·have hjz:j=z:=by omega
  have hr56:(r:Int)=56:=by omega
  have HOZ:=zh (show w.ownsRow base 5 1 (.slice va n vc) (l.length+1+z) (bv (l++128 :: List.replicate z 0)) by rw [<- hjz,<- HN.out.1];exact HO.out)
  clear hmj
  go_wp2_with fail
  exact Met.intro (HJ.out _ _ ⟨⟨_,⟨rfl,rfl,rfl,rfl,trivial⟩,HOZ.out⟩,HB.out,HM.out⟩)
noncomputable def blkP2:Code:=(blockAt 2 bodyP).getD .skip
def LpB2 (w0:World) (base:Nat) (xs:List UInt8) (n:Nat) (v0:Value) (k:Nat) (a:Act) (w:World):Prop :=
 ∃ j v,j+k=8/\Mod (fun p=>base<=p) w0 w/\base<=w.heap.size/\w.ownsRow base 5 1 v (xs.length+j) (bv (xs++lenBytes n j))/\Fr 34 [(0,v0),(3,v),(4,.int .u64 (n:Int)),(5,.int .i64 (7 - (j:Int)))] a
set_option maxRecDepth 100000 in
set_option maxHeartbeats 4000000 in
theorem padlens_any (base:Nat) (xs:List UInt8) (n:Nat) (v0 v:Value) (f:Act) (w:World) (hl:xs.length<=70368744177800) (hb:base<=w.heap.size) (hv:w.ownsRow base 5 1 v xs.length (bv xs))
  (hF:Fr 34 [(0,v0),(3,v),(4,.int .u64 (n:Int)),(5,.int .i64 7)] f) :
  Code.wp prog blkP2 (Exit.then (fun a' w'=>(∃ v',Fr 34 [(0,v0),(3,v')] a'/\w'.ownsRow base 5 1 v' (xs.length+8) (bv (xs++lenBytes n 8)))/\base<=w'.heap.size/\Mod (fun p=>base<=p) w w') Nope) f w:=by
 refine wp_part fun J K' hJ hK=>?_
 obtain ⟨i0,hi,hz0,hz1,hz2⟩:=info_parts info_byte
 have HI:=zh (And.intro hi (And.intro hz0 (And.intro hz1 hz2)))
 clear hi hz0 hz1 hz2
 have H0:=zh (show LpB2 w base xs n v0 8 f w from ⟨0,v,rfl,Mod.refl _ w,hb,by simpa [lenBytes] using hv,hF⟩)
 have HJ:=zh hJ
 obtain ⟨w0,hw0⟩:∃ w0,w0=w:=⟨_,rfl⟩
 rw [<- hw0] at HJ H0
 clear hF hJ hv
 conv=>arg 2;whnf
 go_step
 refine wp_loop_ghost_k (LpB2 w0 base xs n v0) 8 (by rw [hw0] at H0 ⊢;exact H0.out) ?_
 clear H0 hw0 hb f w v
 intro k f w hI J2 K2 hJ2 hK2
 have HJ2:=zh hJ2
 obtain ⟨j,v,hjk,hmod,hb,hown,hF⟩:=hI
 have HO:=zh hown
 have HM:=zh hmod
 have HB:=zh hb
 obtain ⟨va,vc,rfl⟩:=(Sl.of_own hown (X:=No) (fun _ _ f=>f)).len
 clear hJ2 hmod hb hown
 by_cases hi:j < 8
 ·obtain ⟨i,hii⟩:∃ i,i=7 - j:=⟨_,rfl⟩
  obtain ⟨s,hs⟩:∃ s,s=56 - 8*j:=⟨_,rfl⟩
  rw [show (7:Int) - (j:Int)=(i:Int) by omega] at hF
  obtain ⟨ts,ds⟩:=f
  obtain ⟨hsz,hds,hs0,hs3,hs4,hs5,-⟩:=hF
  dsimp only at hsz hds hs0 hs3 hs4 hs5
  subst hds
  obtain ⟨c,rfl,hc⟩:=lit34 ts hsz
  rw [hc] at hs0
  rw [hc] at hs3
  rw [hc] at hs4
  rw [hc] at hs5
  simp only [hs0,hs3,hs4,hs5]
  clear hc hsz hs0 hs3 hs4 hs5
  have b1:(0:Int)<=(i:Int):=Int.natCast_nonneg _
  have b2:(i:Int)<=7:=by omega
  have q1:(8:Int)*(i:Int)=(s:Int):=by omega
  have b3:(0:Int)<=(s:Int):=Int.natCast_nonneg _
  have b4:(s:Int)<=56:=by omega
  obtain ⟨x,hx⟩:∃ x:Int,x=((lenByte n j).toNat:Int):=⟨_,rfl⟩
  have q2:(n:Int) / 2 ^ s % 256=x:=by rw [hx];exact lenByte_val n j s hs
  have HX:=zh (And.intro hx (And.intro hii hs))
  obtain ⟨w1,hw1⟩:∃ w1,w1=w.alloc (.cells #[.int .u8 x] 5):=⟨_,rfl⟩
  have hm1:Mod No w w1:=by rw [hw1];exact (Mod.refl No w).alloc _
  have hg1:w1.heap[w.heap.size]? = some (.cells #[.int .u8 x] 5 (0,0)):=by rw [hw1];exact heap_alloc_new w _
  have HS:=zh (show Sl w1 No 5 (.slice (some ⟨w.heap.size,0,none⟩) 1 1) 1 [.int .u8 x] from .inr ⟨w.heap.size,0,1,_,_,rfl,Nat.le_refl _,by unfold maxLen;omega,fun f=>f,hg1,by simp,fun i hi=>by simp at hi;subst hi;rfl⟩)
  have HO1:=zh (own_keepM HO.out hm1 (fun _ _ f=>f))
  have HB1:=zh (Nat.le_trans HB.out hm1.size)
  have HM1:=zh hm1
  have HW1:=zh hw1
  obtain ⟨hi0,hz0,hz1,hz2⟩:=HI.out
  have HNL:=zh (show xs.length+j+1<=140737488355328 by omega)
  clear hm1 hg1 hw1 hx hii hs
  go_wp2_with (rw [<- HW1.out];at_builtin;refine app_sl _ rfl _ _ 29 rfl base 5 i0 (.int .u8 0) 1 1 underlying29 hi0 hz0 hz1 hz2 rfl (by decide) (.slice va (xs.length+j) vc) (xs.length+j) _ rfl HO1.out No 5 _ 1 [.int .u8 x] rfl HS.out rfl (by simp [Value.oneCell']) (by have:=HNL.out;unfold maxLen;omega) (by have:=HNL.out;omega) HB1.out ?_;intro v3 w3 hown hg hiff;have HO3:=zh (And.intro hown hg);clear hown hg hiff)
  have hm3:Mod (fun p=>base<=p) w1 w3:=Mod.of_grown HO3.out.2 (fun k e _=>(HO1.out.lt _ e).1)
  have hmm:Mod (fun p=>base<=p) w0 w3:=HM.out.trans ((HM1.out.weaken fun _ _ f=>f.elim:Mod (fun p=>base<=p) w w1).trans hm3)
  exact Handed.intro (k - 1) (by omega) (HJ2.out _ _ _ ⟨j+1,v3,by omega,hmm,Nat.le_trans HB1.out hm3.size,by
   have h1:=HO3.out.1
   rw [lenBytes_succ,<- List.append_assoc,bv_append,<- Nat.add_assoc]
   rw [HX.out.1] at h1
   exact h1,rfl,rfl,rfl,rfl,rfl,by have:=HX.out.2.1;show Value.int .i64 _=Value.int .i64 _;congr 1;omega,trivial⟩)
 ·have hj8:j=8:=by omega
  subst hj8
  obtain ⟨ts,ds⟩:=f
  obtain ⟨hsz,hds,hs0,hs3,hs4,hs5,-⟩:=hF
  dsimp only at hsz hds hs0 hs3 hs4 hs5
  subst hds
  obtain ⟨c,rfl,hc⟩:=lit34 ts hsz
  rw [hc] at hs0
  rw [hc] at hs3
  rw [hc] at hs4
  rw [hc] at hs5
  simp only [hs0,hs3,hs4,hs5]
  clear hc hsz hs0 hs3 hs4 hs5
  go_wp2_with fail
  exact Met.intro (HJ.out _ _ ⟨⟨_,⟨rfl,rfl,rfl,rfl,trivial⟩,HO.out⟩,HB.out,HM.out⟩)
set_option maxRecDepth 100000 in
set_option maxHeartbeats 4000000 in
theorem pad_any (l:List UInt8) (V:Value) (w:World) (hl:l.length<=70368744177664) (hV:Sl w No 5 V l.length (bv l)) :
  Calls prog 100 #[V] w fun e w'=>∃ v,e=.returned v/\w'.ownsRow w.heap.size 5 1 v (padT l).length (bv (padT l))/\Mod No w w':=by
 refine calls_hide fun R hR=>?_
 obtain ⟨i0,hi,hz0,hz1,hz2⟩:=info_parts info_byte
 obtain ⟨va,vc,rfl⟩:=hV.len
 have HV:=zh hV
 clear hV
 obtain ⟨base,hbase⟩:∃ base,base=w.heap.size:=⟨_,rfl⟩
 rw [<- hbase] at hR
 have HBA:=zh hbase
 clear hbase
 obtain ⟨n,hn⟩:∃ n,n=l.length:=⟨_,rfl⟩
 rw [<- hn] at HV
 rw [<- hn]
 have HN:=zh hn
 have hn8:(n:Int)<=70368744177664:=by omega
 have hn0:(0:Int)<=(n:Int):=Int.natCast_nonneg _
 clear hn
 go_enter func100,ntmps100
 go_upto_region 1 with fail
 rename_i K5 hK5
 have HK5:=zh hK5
 clear hK5
 go_wp2_with (first
  |(at_builtin;refine app_sl _ rfl _ _ 29 rfl base 5 i0 (.int .u8 0) 1 1 underlying29 hi hz0 hz1 hz2 rfl (by decide) (.slice none 0 0) 0 [] rfl (World.ownsRow_nil _ _ _ _) No 5 _ n (bv l) rfl HV.out (by rw [bv_length,HN.out,Nat.mul_one]) (bv_one _) (by unfold maxLen;omega) (by omega) (by rw [HBA.out];exact Nat.le_refl _) ?_;intro v3 w3 hown hg hiff;rw [Nat.zero_add,List.nil_append] at hown;have HO3:=zh (And.intro hown hg);clear hown hg hiff;obtain ⟨va3,vc3,hv3⟩:=(Sl.of_own HO3.out.1 (X:=No) (fun _ _ f=>f)).len;subst hv3)
  |(at_builtin;refine app_sl _ rfl _ _ 29 rfl base 5 i0 (.int .u8 0) 1 1 underlying29 hi hz0 hz1 hz2 rfl (by decide) (.slice va3 n vc3) n _ rfl (own_keepM HO3.out.1 ((Mod.refl No w3).alloc _) (fun _ _ f=>f)) No 5 (.slice (some ⟨w3.heap.size,0,none⟩) 1 1) 1 [.int .u8 128] rfl (.inr ⟨w3.heap.size,0,1,_,_,rfl,Nat.le_refl _,by unfold maxLen;omega,fun f=>f,heap_alloc_new w3 _,by simp,fun i hi=>by simp at hi;subst hi;rfl⟩) rfl (by simp [Value.oneCell']) (by unfold maxLen;omega) (by omega) (Nat.le_trans (by rw [HBA.out];exact HO3.out.2.size) ((Mod.refl No w3).alloc _).size) ?_;intro v5 w5 hown hg hiff;have HO5:=zh (And.intro hown hg);clear hown hg hiff))
 have hm3:Mod No w w3:=Mod.of_grown HO3.out.2 (fun k e _=>by cases e)
 have hm35:Mod (fun p=>base<=p) w3 w5:=((Mod.refl (fun p=>base<=p) w3).alloc _).trans (Mod.of_grown HO5.out.2 (fun k e _=>(HO3.out.1.lt _ e).1))
 have HM5:=zh (show Mod (fun p=>base<=p) w w5 from (hm3.weaken fun _ _ f=>f.elim:Mod (fun p=>base<=p) w w3).trans hm35)
 have HB5:=zh (show base<=w5.heap.size by rw [HBA.out];exact HM5.out.size)
 have HOW5:=zh (show w5.ownsRow base 5 1 v5 (l.length+1) (bv (l++[128])) by
  have h1:=HO5.out.1
  rw [bv_append,<- HN.out]
  exact h1)
 refine HK5.out _ _ ?_
 clear hm3 hm35 HO3 HO5 HK5 K5
 go_upto_block 0 with fail
 rename_i K6 hK6
 refine wp_only (zeros_any base l _ v5 _ w5 hl HB5.out HOW5.out ⟨rfl,rfl,rfl,rfl,trivial⟩) ?_
 rintro a6 w6 ⟨⟨v6,hF,hown6⟩,hb6,hm6⟩
 have HM6:=zh (HM5.out.trans hm6)
 have HB6:=zh hb6
 have HO6:=zh hown6
 refine hK6 _ _ ?_
 clear hm6 hb6 hown6 hK6 K6
 obtain ⟨ts,ds⟩:=a6
 obtain ⟨hsz,hds,hs0,hs3,-⟩:=hF
 dsimp only at hsz hds hs0 hs3
 subst hds
 obtain ⟨c,rfl,hc⟩:=lit34 ts hsz
 rw [hc] at hs0
 rw [hc] at hs3
 simp only [hs0,hs3]
 clear hc hsz hs0 hs3
 go_upto_block 2 with fail
 rename_i K6 hK6
 have hxl:(l++128 :: List.replicate (64*lastN l - 9 - l.length % 64) 0).length=l.length+1+(64*lastN l - 9 - l.length % 64):=by simp;omega
 refine wp_only (padlens_any base (l++128 :: List.replicate (64*lastN l - 9 - l.length % 64) 0) (n*8) _ v6 _ w6 (by rw [hxl];have:=lastN_le2 l;omega) HB6.out (by rw [hxl];exact HO6.out) ⟨rfl,rfl,rfl,rfl,rfl,rfl,trivial⟩) ?_
 rintro a7 w7 ⟨⟨v7,hF,hown7⟩,hb7,hm7⟩
 have HM7:=zh (HM6.out.trans hm7)
 have HO7:=zh (show w7.ownsRow base 5 1 v7 (padT l).length (bv (padT l)) by
  have e1:(padT l).length=(l++128 :: List.replicate (64*lastN l - 9 - l.length % 64) 0).length+8:=by unfold padT;rw [List.length_append,lenBytes_length]
  rw [e1]
  have h1:=hown7
  rw [HN.out] at h1
  exact h1)
 refine hK6 _ _ ?_
 clear hm7 hb7 hown7 hK6 K6 hxl c
 obtain ⟨ts,ds⟩:=a7
 obtain ⟨hsz,hds,hs0,hs3,-⟩:=hF
 dsimp only at hsz hds hs0 hs3
 subst hds
 obtain ⟨c,rfl,hc⟩:=lit34 ts hsz
 rw [hc] at hs0
 rw [hc] at hs3
 simp only [hs0,hs3]
 clear hc hsz hs0 hs3
 go_wp2_with fail
 exact fin hR ⟨_,rfl,HO7.out,HM7.out.weaken (fun k hk e=>absurd hk (by have:=HBA.out;omega))⟩
set_option maxRecDepth 100000 in
theorem lit259 (t:Array Value) (h:t.size=259):∃ c:Nat->Value,t=#[c 0,c 1,c 2,c 3,c 4,c 5,c 6,c 7,c 8,c 9,c 10,c 11,c 12,c 13,c 14,c 15,c 16,c 17,c 18,c 19,c 20,c 21,c 22,c 23,c 24,c 25,c 26,c 27,c 28,c 29,c 30,c 31,c 32,c 33,c 34,c 35,c 36,c 37,c 38,c 39,c 40,c 41,c 42,c 43,c 44,c 45,c 46,c 47,c 48,c 49,c 50,c 51,c 52,c 53,c 54,c 55,c 56,c 57,c 58,c 59,c 60,c 61,c 62,c 63,c 64,c 65,c 66,c 67,c 68,c 69,c 70,c 71,c 72,c 73,c 74,c 75,c 76,c 77,c 78,c 79,c 80,c 81,c 82,c 83,c 84,c 85,c 86,c 87,c 88,c 89,c 90,c 91,c 92,c 93,c 94,c 95,c 96,c 97,c 98,c 99,c 100,c 101,c 102,c 103,c 104,c 105,c 106,c 107,c 108,c 109,c 110,c 111,c 112,c 113,c 114,c 115,c 116,c 117,c 118,c 119,c 120,c 121,c 122,c 123,c 124,c 125,c 126,c 127,c 128,c 129,c 130,c 131,c 132,c 133,c 134,c 135,c 136,c 137,c 138,c 139,c 140,c 141,c 142,c 143,c 144,c 145,c 146,c 147,c 148,c 149,c 150,c 151,c 152,c 153,c 154,c 155,c 156,c 157,c 158,c 159,c 160,c 161,c 162,c 163,c 164,c 165,c 166,c 167,c 168,c 169,c 170,c 171,c 172,c 173,c 174,c 175,c 176,c 177,c 178,c 179,c 180,c 181,c 182,c 183,c 184,c 185,c 186,c 187,c 188,c 189,c 190,c 191,c 192,c 193,c 194,c 195,c 196,c 197,c 198,c 199,c 200,c 201,c 202,c 203,c 204,c 205,c 206,c 207,c 208,c 209,c 210,c 211,c 212,c 213,c 214,c 215,c 216,c 217,c 218,c 219,c 220,c 221,c 222,c 223,c 224,c 225,c 226,c 227,c 228,c 229,c 230,c 231,c 232,c 233,c 234,c 235,c 236,c 237,c 238,c 239,c 240,c 241,c 242,c 243,c 244,c 245,c 246,c 247,c 248,c 249,c 250,c 251,c 252,c 253,c 254,c 255,c 256,c 257,c 258]/\∀ i,t.getD i undef=c i:=by
 refine ⟨fun i=>t.getD i undef,?_,fun _=>rfl⟩
 have h1:=arr_lits t
 rw [h] at h1
 exact h1.trans (by kernel_rfl)
noncomputable def bodyW:Code:=Tryz.f76.body.getD .skip
noncomputable def blkW2:Code:=(blockAt 2 bodyW).getD .skip
noncomputable def blkW3:Code:=(blockAt 3 bodyW).getD .skip
noncomputable def blkW4:Code:=(blockAt 4 bodyW).getD .skip
noncomputable def blkW5:Code:=(blockAt 5 bodyW).getD .skip
noncomputable def blkW6:Code:=(blockAt 6 bodyW).getD .skip
noncomputable def blkW7:Code:=(blockAt 7 bodyW).getD .skip
set_option maxRecDepth 100000 in
set_option maxHeartbeats 4000000 in
theorem rword_lo (bb bo bn bc g i at':Nat) (v2 v3 v4:Value) (y0 y1 y2 y3:Int) (ws:List Int) (a:Act) (w:World) (hi:i < 16) (hn:at'+64<=bn) (hb:bn<=281474976710656) (hws:ws.length=i) (hg:w.heap[g]? = some (.cells (wCells ws) 148 (0,0)))
  (h0:w.cell? ⟨bb,bo+(at'+(4*i+0)),none⟩=some (.int .u8 y0)) (h1:w.cell? ⟨bb,bo+(at'+(4*i+1)),none⟩=some (.int .u8 y1)) (h2:w.cell? ⟨bb,bo+(at'+(4*i+2)),none⟩=some (.int .u8 y2)) (h3:w.cell? ⟨bb,bo+(at'+(4*i+3)),none⟩=some (.int .u8 y3))
  (hF:Fr 259 [(2,v2),(3,v3),(4,v4),(5,.slice (some ⟨bb,bo,none⟩) bn bc),(6,.int .i64 (at':Int)),(7,.pointer (some ⟨g,0,none⟩)),(8,.int .i64 (i:Int))] a) :
  Code.wp prog blkW3 (Exit.then (fun a' w'=>Fr 259 [(2,v2),(3,v3),(4,v4),(5,.slice (some ⟨bb,bo,none⟩) bn bc),(6,.int .i64 (at':Int)),(7,.pointer (some ⟨g,0,none⟩)),(8,.int .i64 (i:Int))] a'/\w'.heap[g]? = some (.cells (wCells (ws++[be4 y0 y1 y2 y3])) 148 (0,0))/\Mod (fun q=>q=g) w w') Nope) a w:=by
 refine wp_part fun J K' hJ hK=>?_
 obtain ⟨ts,ds⟩:=a
 obtain ⟨hsz,hds,hs2,hs3,hs4,hs5,hs6,hs7,hs8,-⟩:=hF
 dsimp only at hsz hds hs2 hs3 hs4 hs5 hs6 hs7 hs8
 subst hds
 obtain ⟨c,rfl,hc⟩:=lit259 ts hsz
 rw [hc] at hs2
 rw [hc] at hs3
 rw [hc] at hs4
 rw [hc] at hs5
 rw [hc] at hs6
 rw [hc] at hs7
 rw [hc] at hs8
 simp only [hs2,hs3,hs4,hs5,hs6,hs7,hs8]
 clear hc hsz hs2 hs3 hs4 hs5 hs6 hs7 hs8
 have hi0:(0:Int)<=(i:Int):=Int.natCast_nonneg _
 have hi64:(i:Int) < 64:=by omega
 have HG:=zh hg
 obtain ⟨j,hj⟩:∃ j,j=4*i:=⟨_,rfl⟩
 rw [<- hj] at h0 h1 h2 h3
 have hjI:(4:Int)*(i:Int)=(j:Int):=by omega
 have hj0:(0:Int)<=(j:Int):=Int.natCast_nonneg _
 obtain ⟨m,hm⟩:∃ m,m=at'+j:=⟨_,rfl⟩
 obtain ⟨m1,hm1⟩:∃ j1,j1=m+1:=⟨_,rfl⟩
 obtain ⟨m2,hm2⟩:∃ j2,j2=m+2:=⟨_,rfl⟩
 obtain ⟨m3,hm3⟩:∃ j3,j3=m+3:=⟨_,rfl⟩
 have EJ:=zh (show IntKind.i64.wrap (j:Int)=(j:Int) by rw [IntKind.wrap_i64];omega)
 have EM:=zh (show IntKind.i64.wrap ((at':Int)+(j:Int))=(m:Int) by rw [IntKind.wrap_i64];omega)
 have E1:=zh (show IntKind.i64.wrap ((m:Int)+1)=(m1:Int) by rw [IntKind.wrap_i64];omega)
 have E2:=zh (show IntKind.i64.wrap ((m:Int)+2)=(m2:Int) by rw [IntKind.wrap_i64];omega)
 have E3:=zh (show IntKind.i64.wrap ((m:Int)+3)=(m3:Int) by rw [IntKind.wrap_i64];omega)
 have b1:(m1:Int) < (bn:Int):=by omega
 have b2:(m2:Int) < (bn:Int):=by omega
 have b3:(m3:Int) < (bn:Int):=by omega
 have b0:(m:Int) < (bn:Int):=by omega
 have c0:(0:Int)<=(m:Int):=Int.natCast_nonneg _
 have c1:(0:Int)<=(m1:Int):=Int.natCast_nonneg _
 have c2:(0:Int)<=(m2:Int):=Int.natCast_nonneg _
 have c3:(0:Int)<=(m3:Int):=Int.natCast_nonneg _
 rw [Nat.add_zero,<- hm] at h0
 rw [<- Nat.add_assoc at' j,<- hm,<- hm1] at h1
 rw [<- Nat.add_assoc at' j,<- hm,<- hm2] at h2
 rw [<- Nat.add_assoc at' j,<- hm,<- hm3] at h3
 clear hm1 hm2 hm3
 have hS0:=And.intro h0 (And.intro h1 (And.intro h2 h3))
 clear hm hj hg hb
 conv=>arg 2;whnf
 go_upto_region 11 with fail
 refine wp_region_T (fun w'=>w'.cell? ⟨bb,bo+m,none⟩=some (.int .u8 y0)/\w'.cell? ⟨bb,bo+m1,none⟩=some (.int .u8 y1)/\w'.cell? ⟨bb,bo+m2,none⟩=some (.int .u8 y2)/\w'.cell? ⟨bb,bo+m3,none⟩=some (.int .u8 y3)) 43 (by kernel_rfl) ?_
 refine wpAnyT_take 0 (some 39) ?_ rfl rfl (by kernel_rfl) (fun _ _ _ h=>h) hS0 (Or.inl ⟨by rfl,?_⟩) ?_
 rotate_left
 ·(intro w' hSw;obtain ⟨s0,s1,s2,s3⟩:=hSw;go_simp;try with_reducible rfl)
 simp only [Act.put,yB,yC,yD]
 refine wpAnyT_take 1 (some 40) ?_ rfl rfl (by kernel_rfl) (fun _ _ _ h=>h) hS0 (Or.inl ⟨by rfl,?_⟩) ?_
 rotate_left
 ·(intro w' hSw;obtain ⟨s0,s1,s2,s3⟩:=hSw;go_simp;try with_reducible rfl)
 simp only [Act.put,yB,yC,yD]
 refine wpAnyT_take 2 (some 41) ?_ rfl rfl (by kernel_rfl) (fun _ _ _ h=>h) hS0 (Or.inl ⟨by rfl,?_⟩) ?_
 rotate_left
 ·(intro w' hSw;obtain ⟨s0,s1,s2,s3⟩:=hSw;go_simp;try with_reducible rfl)
 simp only [Act.put,yB,yC,yD]
 refine wpAnyT_take 3 (some 42) ?_ rfl rfl (by kernel_rfl) (fun _ _ _ h=>h) hS0 (Or.inl ⟨by rfl,?_⟩) ?_
 rotate_left
 ·(intro w' hSw;obtain ⟨s0,s1,s2,s3⟩:=hSw;go_simp;try with_reducible rfl)
 simp only [Act.put,yB,yC,yD]
 refine wpAnyT_take 4 (some 43) (.int .i64 (j:Int)) rfl rfl (by kernel_rfl) (fun _ _ _ h=>h) hS0 (Or.inl ⟨by rfl,?_⟩) ?_
 ·(intro w' hSw;obtain ⟨s0,s1,s2,s3⟩:=hSw;go_simp;exact EJ.out)
 simp only [Act.put,yB,yC,yD]
 refine wpAnyT_take 5 (some 44) (.int .i64 (m:Int)) rfl rfl (by kernel_rfl) (fun _ _ _ h=>h) hS0 (Or.inl ⟨by rfl,?_⟩) ?_
 ·(intro w' hSw;obtain ⟨s0,s1,s2,s3⟩:=hSw;go_simp;exact EM.out)
 simp only [Act.put,yB,yC,yD]
 refine wpAnyT_take 6 (some 45) ?_ rfl rfl (by kernel_rfl) (fun _ _ _ h=>h) hS0 (Or.inl ⟨by rfl,?_⟩) ?_
 rotate_left
 ·(intro w' hSw;obtain ⟨s0,s1,s2,s3⟩:=hSw;go_simp;try with_reducible rfl)
 simp only [Act.put,yB,yC,yD]
 refine wpAnyT_take 7 (some 46) ?_ rfl rfl (by kernel_rfl) (fun _ _ _ h=>h) hS0 (Or.inl ⟨by rfl,?_⟩) ?_
 rotate_left
 ·(intro w' hSw;obtain ⟨s0,s1,s2,s3⟩:=hSw;go_simp;try with_reducible rfl)
 simp only [Act.put,yB,yC,yD]
 refine wpAnyT_take 8 (some 47) ?_ rfl rfl (by kernel_rfl) (fun _ _ _ h=>h) hS0 (Or.inl ⟨by rfl,?_⟩) ?_
 rotate_left
 ·(intro w' hSw;obtain ⟨s0,s1,s2,s3⟩:=hSw;go_simp;try with_reducible rfl)
 simp only [Act.put,yB,yC,yD]
 refine wpAnyT_take 9 (some 48) ?_ rfl rfl (by kernel_rfl) (fun _ _ _ h=>h) hS0 (Or.inl ⟨by rfl,?_⟩) ?_
 rotate_left
 ·(intro w' hSw;obtain ⟨s0,s1,s2,s3⟩:=hSw;go_simp;try with_reducible rfl)
 simp only [Act.put,yB,yC,yD]
 refine wpAnyT_take 10 (some 49) ?_ rfl rfl (by kernel_rfl) (fun _ _ _ h=>h) hS0 (Or.inl ⟨by rfl,?_⟩) ?_
 rotate_left
 ·(intro w' hSw;obtain ⟨s0,s1,s2,s3⟩:=hSw;go_simp;try with_reducible rfl)
 simp only [Act.put,yB,yC,yD]
 refine wpAnyT_take 11 (some 50) ?_ rfl rfl (by kernel_rfl) (fun _ _ _ h=>h) hS0 (Or.inl ⟨by rfl,?_⟩) ?_
 rotate_left
 ·(intro w' hSw;obtain ⟨s0,s1,s2,s3⟩:=hSw;go_simp;try with_reducible rfl)
 simp only [Act.put,yB,yC,yD]
 refine wpAnyT_take 12 (some 51) ?_ rfl rfl (by kernel_rfl) (fun _ _ _ h=>h) hS0 (Or.inl ⟨by rfl,?_⟩) ?_
 rotate_left
 ·(intro w' hSw;obtain ⟨s0,s1,s2,s3⟩:=hSw;go_simp;try with_reducible rfl)
 simp only [Act.put,yB,yC,yD]
 refine wpAnyT_take 13 (some 52) (.int .i64 (j:Int)) rfl rfl (by kernel_rfl) (fun _ _ _ h=>h) hS0 (Or.inl ⟨by rfl,?_⟩) ?_
 ·(intro w' hSw;obtain ⟨s0,s1,s2,s3⟩:=hSw;go_simp;exact EJ.out)
 simp only [Act.put,yB,yC,yD]
 refine wpAnyT_take 14 (some 53) (.int .i64 (m:Int)) rfl rfl (by kernel_rfl) (fun _ _ _ h=>h) hS0 (Or.inl ⟨by rfl,?_⟩) ?_
 ·(intro w' hSw;obtain ⟨s0,s1,s2,s3⟩:=hSw;go_simp;exact EM.out)
 simp only [Act.put,yB,yC,yD]
 refine wpAnyT_take 15 (some 54) (.int .i64 (m1:Int)) rfl rfl (by kernel_rfl) (fun _ _ _ h=>h) hS0 (Or.inl ⟨by rfl,?_⟩) ?_
 ·(intro w' hSw;obtain ⟨s0,s1,s2,s3⟩:=hSw;go_simp;exact E1.out)
 simp only [Act.put,yB,yC,yD]
 refine wpAnyT_take 16 (some 55) ?_ rfl rfl (by kernel_rfl) (fun _ _ _ h=>h) hS0 (Or.inl ⟨by rfl,?_⟩) ?_
 rotate_left
 ·(intro w' hSw;obtain ⟨s0,s1,s2,s3⟩:=hSw;go_simp;try with_reducible rfl)
 simp only [Act.put,yB,yC,yD]
 refine wpAnyT_take 17 (some 56) ?_ rfl rfl (by kernel_rfl) (fun _ _ _ h=>h) hS0 (Or.inl ⟨by rfl,?_⟩) ?_
 rotate_left
 ·(intro w' hSw;obtain ⟨s0,s1,s2,s3⟩:=hSw;go_simp;try with_reducible rfl)
 simp only [Act.put,yB,yC,yD]
 refine wpAnyT_take 18 (some 57) ?_ rfl rfl (by kernel_rfl) (fun _ _ _ h=>h) hS0 (Or.inl ⟨by rfl,?_⟩) ?_
 rotate_left
 ·(intro w' hSw;obtain ⟨s0,s1,s2,s3⟩:=hSw;go_simp;try with_reducible rfl)
 simp only [Act.put,yB,yC,yD]
 refine wpAnyT_take 19 (some 58) ?_ rfl rfl (by kernel_rfl) (fun _ _ _ h=>h) hS0 (Or.inl ⟨by rfl,?_⟩) ?_
 rotate_left
 ·(intro w' hSw;obtain ⟨s0,s1,s2,s3⟩:=hSw;go_simp;try with_reducible rfl)
 simp only [Act.put,yB,yC,yD]
 refine wpAnyT_take 20 (some 59) ?_ rfl rfl (by kernel_rfl) (fun _ _ _ h=>h) hS0 (Or.inl ⟨by rfl,?_⟩) ?_
 rotate_left
 ·(intro w' hSw;obtain ⟨s0,s1,s2,s3⟩:=hSw;go_simp;try with_reducible rfl)
 simp only [Act.put,yB,yC,yD]
 refine wpAnyT_take 21 (some 60) ?_ rfl rfl (by kernel_rfl) (fun _ _ _ h=>h) hS0 (Or.inl ⟨by rfl,?_⟩) ?_
 rotate_left
 ·(intro w' hSw;obtain ⟨s0,s1,s2,s3⟩:=hSw;go_simp;try with_reducible rfl)
 simp only [Act.put,yB,yC,yD]
 refine wpAnyT_take 22 (some 61) ?_ rfl rfl (by kernel_rfl) (fun _ _ _ h=>h) hS0 (Or.inl ⟨by rfl,?_⟩) ?_
 rotate_left
 ·(intro w' hSw;obtain ⟨s0,s1,s2,s3⟩:=hSw;go_simp;try with_reducible rfl)
 simp only [Act.put,yB,yC,yD]
 refine wpAnyT_take 23 (some 62) ?_ rfl rfl (by kernel_rfl) (fun _ _ _ h=>h) hS0 (Or.inl ⟨by rfl,?_⟩) ?_
 rotate_left
 ·(intro w' hSw;obtain ⟨s0,s1,s2,s3⟩:=hSw;go_simp;try with_reducible rfl)
 simp only [Act.put,yB,yC,yD]
 refine wpAnyT_take 24 (some 63) (.int .i64 (j:Int)) rfl rfl (by kernel_rfl) (fun _ _ _ h=>h) hS0 (Or.inl ⟨by rfl,?_⟩) ?_
 ·(intro w' hSw;obtain ⟨s0,s1,s2,s3⟩:=hSw;go_simp;exact EJ.out)
 simp only [Act.put,yB,yC,yD]
 refine wpAnyT_take 25 (some 64) (.int .i64 (m:Int)) rfl rfl (by kernel_rfl) (fun _ _ _ h=>h) hS0 (Or.inl ⟨by rfl,?_⟩) ?_
 ·(intro w' hSw;obtain ⟨s0,s1,s2,s3⟩:=hSw;go_simp;exact EM.out)
 simp only [Act.put,yB,yC,yD]
 refine wpAnyT_take 26 (some 65) (.int .i64 (m2:Int)) rfl rfl (by kernel_rfl) (fun _ _ _ h=>h) hS0 (Or.inl ⟨by rfl,?_⟩) ?_
 ·(intro w' hSw;obtain ⟨s0,s1,s2,s3⟩:=hSw;go_simp;exact E2.out)
 simp only [Act.put,yB,yC,yD]
 refine wpAnyT_take 27 (some 66) ?_ rfl rfl (by kernel_rfl) (fun _ _ _ h=>h) hS0 (Or.inl ⟨by rfl,?_⟩) ?_
 rotate_left
 ·(intro w' hSw;obtain ⟨s0,s1,s2,s3⟩:=hSw;go_simp;try with_reducible rfl)
 simp only [Act.put,yB,yC,yD]
 refine wpAnyT_take 28 (some 67) ?_ rfl rfl (by kernel_rfl) (fun _ _ _ h=>h) hS0 (Or.inl ⟨by rfl,?_⟩) ?_
 rotate_left
 ·(intro w' hSw;obtain ⟨s0,s1,s2,s3⟩:=hSw;go_simp;try with_reducible rfl)
 simp only [Act.put,yB,yC,yD]
 refine wpAnyT_take 29 (some 68) ?_ rfl rfl (by kernel_rfl) (fun _ _ _ h=>h) hS0 (Or.inl ⟨by rfl,?_⟩) ?_
 rotate_left
 ·(intro w' hSw;obtain ⟨s0,s1,s2,s3⟩:=hSw;go_simp;try with_reducible rfl)
 simp only [Act.put,yB,yC,yD]
 refine wpAnyT_take 30 (some 69) ?_ rfl rfl (by kernel_rfl) (fun _ _ _ h=>h) hS0 (Or.inl ⟨by rfl,?_⟩) ?_
 rotate_left
 ·(intro w' hSw;obtain ⟨s0,s1,s2,s3⟩:=hSw;go_simp;try with_reducible rfl)
 simp only [Act.put,yB,yC,yD]
 refine wpAnyT_take 31 (some 70) ?_ rfl rfl (by kernel_rfl) (fun _ _ _ h=>h) hS0 (Or.inl ⟨by rfl,?_⟩) ?_
 rotate_left
 ·(intro w' hSw;obtain ⟨s0,s1,s2,s3⟩:=hSw;go_simp;try with_reducible rfl)
 simp only [Act.put,yB,yC,yD]
 refine wpAnyT_take 32 (some 71) ?_ rfl rfl (by kernel_rfl) (fun _ _ _ h=>h) hS0 (Or.inl ⟨by rfl,?_⟩) ?_
 rotate_left
 ·(intro w' hSw;obtain ⟨s0,s1,s2,s3⟩:=hSw;go_simp;try with_reducible rfl)
 simp only [Act.put,yB,yC,yD]
 refine wpAnyT_take 33 (some 72) ?_ rfl rfl (by kernel_rfl) (fun _ _ _ h=>h) hS0 (Or.inl ⟨by rfl,?_⟩) ?_
 rotate_left
 ·(intro w' hSw;obtain ⟨s0,s1,s2,s3⟩:=hSw;go_simp;try with_reducible rfl)
 simp only [Act.put,yB,yC,yD]
 refine wpAnyT_take 34 (some 73) ?_ rfl rfl (by kernel_rfl) (fun _ _ _ h=>h) hS0 (Or.inl ⟨by rfl,?_⟩) ?_
 rotate_left
 ·(intro w' hSw;obtain ⟨s0,s1,s2,s3⟩:=hSw;go_simp;try with_reducible rfl)
 simp only [Act.put,yB,yC,yD]
 refine wpAnyT_take 35 (some 74) (.int .i64 (j:Int)) rfl rfl (by kernel_rfl) (fun _ _ _ h=>h) hS0 (Or.inl ⟨by rfl,?_⟩) ?_
 ·(intro w' hSw;obtain ⟨s0,s1,s2,s3⟩:=hSw;go_simp;exact EJ.out)
 simp only [Act.put,yB,yC,yD]
 refine wpAnyT_take 36 (some 75) (.int .i64 (m:Int)) rfl rfl (by kernel_rfl) (fun _ _ _ h=>h) hS0 (Or.inl ⟨by rfl,?_⟩) ?_
 ·(intro w' hSw;obtain ⟨s0,s1,s2,s3⟩:=hSw;go_simp;exact EM.out)
 simp only [Act.put,yB,yC,yD]
 refine wpAnyT_take 37 (some 76) (.int .i64 (m3:Int)) rfl rfl (by kernel_rfl) (fun _ _ _ h=>h) hS0 (Or.inl ⟨by rfl,?_⟩) ?_
 ·(intro w' hSw;obtain ⟨s0,s1,s2,s3⟩:=hSw;go_simp;exact E3.out)
 simp only [Act.put,yB,yC,yD]
 refine wpAnyT_take 38 (some 77) ?_ rfl rfl (by kernel_rfl) (fun _ _ _ h=>h) hS0 (Or.inl ⟨by rfl,?_⟩) ?_
 rotate_left
 ·(intro w' hSw;obtain ⟨s0,s1,s2,s3⟩:=hSw;go_simp;try with_reducible rfl)
 simp only [Act.put,yB,yC,yD]
 refine wpAnyT_take 39 (some 78) ?_ rfl rfl (by kernel_rfl) (fun _ _ _ h=>h) hS0 (Or.inl ⟨by rfl,?_⟩) ?_
 rotate_left
 ·(intro w' hSw;obtain ⟨s0,s1,s2,s3⟩:=hSw;go_simp;try with_reducible rfl)
 simp only [Act.put,yB,yC,yD]
 refine wpAnyT_take 40 (some 79) ?_ rfl rfl (by kernel_rfl) (fun _ _ _ h=>h) hS0 (Or.inl ⟨by rfl,?_⟩) ?_
 rotate_left
 ·(intro w' hSw;obtain ⟨s0,s1,s2,s3⟩:=hSw;go_simp;try with_reducible rfl)
 simp only [Act.put,yB,yC,yD]
 refine wpAnyT_take 41 (some 80) ?_ rfl rfl (by kernel_rfl) (fun _ _ _ h=>h) hS0 (Or.inl ⟨by rfl,?_⟩) ?_
 rotate_left
 ·(intro w' hSw;obtain ⟨s0,s1,s2,s3⟩:=hSw;go_simp;try with_reducible rfl)
 simp only [Act.put,yB,yC,yD]
 refine wpAnyT_take 42 (some 81) ?_ rfl rfl (by kernel_rfl) (fun _ _ _ h=>h) hS0 (Or.inl ⟨by rfl,?_⟩) ?_
 rotate_left
 ·(intro w' hSw;obtain ⟨s0,s1,s2,s3⟩:=hSw;go_simp;try with_reducible rfl)
 simp only [Act.put,yB,yC,yD]
 refine wpAnyT_one 43 rfl (by kernel_rfl) rfl ?_
 intro K hK
 have cg:=cell_ofA HG.out (wCells_new hws (by omega))
 have fg:=frozen_of i HG.out
 obtain ⟨w5,hw5⟩:∃ w5,w5=(w.setCell ⟨g,i,none⟩ (.int .u32 (be4 y0 y1 y2 y3))).drew:=⟨_,rfl⟩
 have HR5:=zh (show w5.heap[g]? = some (.cells (wCells (ws++[be4 y0 y1 y2 y3])) 148 (0,0)) by rw [hw5];show (w.setCell ⟨g,i,none⟩ (.int .u32 (be4 y0 y1 y2 y3))).heap[g]? = _;rw [heap_setCell HG.out,wCells_set hws (by omega)])
 have HM5:=zh (show Mod (fun q=>q=g) w w5 by rw [hw5];exact ((Mod.refl (fun q=>q=g) w).setCell (fun _=>rfl) _).drew)
 have HW5:=zh hw5
 clear hw5
 unfold be4 at HW5
 go_simp
 rw [<- HW5.out]
 show K _ _
 refine hK.out _ _ (fun h=>absurd rfl h) ?_
 clear hK K
 refine wpAnyT_done (by kernel_rfl) ?_ _
 go_wp2_with fail
 exact Met.intro (hJ _ _ ⟨⟨rfl,rfl,rfl,rfl,rfl,rfl,rfl,rfl,rfl,trivial⟩,HR5.out,HM5.out⟩)
def LpU (w0:World) (b:Nat->Int) (bb bo bn bc g at':Nat) (v2 v3 v4:Value) (k:Nat) (a:Act) (w:World):Prop :=
 ∃ i,i+k=16/\Mod (fun q=>q=g) w0 w/\w.heap[g]? = some (.cells (wCells (wordsF b i)) 148 (0,0)) ∧
  Fr 259 [(2,v2),(3,v3),(4,v4),(5,.slice (some ⟨bb,bo,none⟩) bn bc),(6,.int .i64 (at':Int)),(7,.pointer (some ⟨g,0,none⟩)),(8,.int .i64 (i:Int))] a
set_option maxRecDepth 100000 in
set_option maxHeartbeats 4000000 in
theorem rwords_lo (b:Nat->Int) (bb bo bn bc g at':Nat) (v2 v3 v4:Value) (f:Act) (w:World) (hn:at'+64<=bn) (hbn:bn<=281474976710656) (hbg:bb ≠ g)
  (hb:∀ k,k < 64->w.cell? ⟨bb,bo+(at'+k),none⟩=some (.int .u8 (b k))) (hg:w.heap[g]? = some (.cells (wCells []) 148 (0,0)))
  (hF:Fr 259 [(2,v2),(3,v3),(4,v4),(5,.slice (some ⟨bb,bo,none⟩) bn bc),(6,.int .i64 (at':Int)),(7,.pointer (some ⟨g,0,none⟩)),(8,.int .i64 0)] f) :
  Code.wp prog blkW2 (Exit.then (fun a' w'=>Fr 259 [(2,v2),(3,v3),(4,v4),(5,.slice (some ⟨bb,bo,none⟩) bn bc),(6,.int .i64 (at':Int)),(7,.pointer (some ⟨g,0,none⟩))] a'/\w'.heap[g]? = some (.cells (wCells (wordsF b 16)) 148 (0,0))/\Mod (fun q=>q=g) w w') Nope) f w:=by
 refine wp_part fun J K' hJ hK=>?_
 have H0:=zh (show LpU w b bb bo bn bc g at' v2 v3 v4 16 f w from ⟨0,rfl,Mod.refl _ w,hg,hF⟩)
 have HB:=zh hb
 have HJ:=zh hJ
 obtain ⟨w0,hw0⟩:∃ w0,w0=w:=⟨_,rfl⟩
 rw [<- hw0] at HB HJ H0
 clear hb hF hJ hg
 conv=>arg 2;whnf
 go_step
 refine wp_loop_ghost_k (LpU w0 b bb bo bn bc g at' v2 v3 v4) 16 (by rw [hw0] at H0 ⊢;exact H0.out) ?_
 clear H0 hw0 f w
 intro k f w hI J2 K2 hJ2 hK2
 have HJ2:=zh hJ2
 obtain ⟨i,hik,hmod,hg,hF⟩:=hI
 have HG:=zh hg
 have HM:=zh hmod
 clear hJ2 hg hmod
 obtain ⟨ts,ds⟩:=f
 obtain ⟨hsz,hds,hs2,hs3,hs4,hs5,hs6,hs7,hs8,-⟩:=hF
 dsimp only at hsz hds hs2 hs3 hs4 hs5 hs6 hs7 hs8
 subst hds
 obtain ⟨c,rfl,hc⟩:=lit259 ts hsz
 rw [hc] at hs2
 rw [hc] at hs3
 rw [hc] at hs4
 rw [hc] at hs5
 rw [hc] at hs6
 rw [hc] at hs7
 rw [hc] at hs8
 simp only [hs2,hs3,hs4,hs5,hs6,hs7,hs8]
 clear hc hsz hs2 hs3 hs4 hs5 hs6 hs7 hs8
 have hi0:(0:Int)<=(i:Int):=Int.natCast_nonneg _
 by_cases hi:i < 16
 ·have hi64:(i:Int) < 16:=by omega
  go_upto_block 3 with fail
  rename_i K5 hK5
  have hc:∀ j,j < 4->w.cell? ⟨bb,bo+(at'+(4*i+j)),none⟩=some (.int .u8 (b (4*i+j))):=fun j hj=>HM.out.cell (HB.out _ (by omega)) (fun e=>hbg e)
  have HC:=zh hc
  clear hc
  refine wp_only (rword_lo bb bo bn bc g i at' v2 v3 v4 _ _ _ _ _ _ w hi hn hbn (wordsF_length b i) HG.out (HC.out 0 (by omega)) (HC.out 1 (by omega)) (HC.out 2 (by omega)) (HC.out 3 (by omega)) ⟨rfl,rfl,rfl,rfl,rfl,rfl,rfl,rfl,rfl,trivial⟩) ?_
  rintro a2 w2 ⟨hF,hg2,hm2⟩
  rw [<- wordsF_lo b hi] at hg2
  have HG2:=zh hg2
  have HM2:=zh (HM.out.trans hm2)
  clear hg2 hm2 HG HC
  refine hK5 _ _ ?_
  obtain ⟨ts,ds⟩:=a2
  obtain ⟨hsz,hds,hs2,hs3,hs4,hs5,hs6,hs7,hs8,-⟩:=hF
  dsimp only at hsz hds hs2 hs3 hs4 hs5 hs6 hs7 hs8
  subst hds
  obtain ⟨c,rfl,hc⟩:=lit259 ts hsz
  rw [hc] at hs2
  rw [hc] at hs3
  rw [hc] at hs4
  rw [hc] at hs5
  rw [hc] at hs6
  rw [hc] at hs7
  rw [hc] at hs8
  simp only [hs2,hs3,hs4,hs5,hs6,hs7,hs8]
  clear hc hsz hs2 hs3 hs4 hs5 hs6 hs7 hs8
  clear hK5 K5
  go_wp2_with fail
  exact Handed.intro (k - 1) (by omega) (HJ2.out _ _ _ ⟨i+1,by omega,HM2.out,HG2.out,rfl,rfl,rfl,rfl,rfl,rfl,rfl,rfl,by go_num,trivial⟩)
 ·have hi64:i=16:=by omega
  subst hi64
  go_wp2_with fail
  exact Met.intro (HJ.out _ _ ⟨⟨rfl,rfl,rfl,rfl,rfl,rfl,rfl,rfl,trivial⟩,HG.out,HM.out⟩)
end Go.Proofs.YtgiigemfbebcgaaGreatDoor
