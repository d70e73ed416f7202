/-
  Layers 0 to 14: helps of the laws of indexes. No statement is proved here; no condition.
-/
import Derived.Test.YticfcmdjplmaeaaGreatDoorX16
import Derived.Test.YticfcmdjplmaeaaGreatDoorX03
import Derived.Test.YticfcmdjplmaeaaGreatDoorX07
import Derived.Test.YticfcmdjplmaeaaGreatDoorX20
import Derived.Test.YticfcmdjplmaeaaGreatDoorX02
import Derived.Test.YticfcmdjplmaeaaGreatDoorX00
import Derived.Test.YticfcmdjplmaeaaGreatDoorX05
import Derived.Test.YticfcmdjplmaeaaGreatDoorX01
import Derived.Test.YticfcmdjplmaeaaGreatDoorX17
import Derived.Great.CaseRows
set_option maxRecDepth 100000
set_option maxHeartbeats 64000000
namespace Go.Proofs.YticfcmdjplmaeaaGreatDoor
open _root_.Go.Proofs.Tryz
open Go.RowKit
structure PnO (w:World) (x:PnX):Prop where
 sum:x.p.sum.length=32
 small:Small x.p.v
 pre:Sl w No 9 x.pv x.p.v.pre.length (strs x.p.v.pre)
theorem PnO.keep {S:Nat->Prop} {w w':World} {x:PnX} (h:PnO w x) (hm:Mod S w w') (ha:Apart [9] S w):PnO w' x:=⟨h.sum,h.small,h.pre.apart hm ha⟩
def LkRes (w':World) (s:List UInt8) (e:Ending):Prop:=match lkOf s with
 | some ps=>∃ (xs:List PnX) (v:Value),xs.map PnX.p=ps/\e=.returned (.tuple #[v,.int .i64 0,.int .i64 0])/\Sl w' No 120 v xs.length (xs.flatMap PnX.cells)/\(∀ x ∈ xs,PnO w' x)/\xs.length<=200
 | none=>∃ i:Int,e=.returned (.tuple #[.slice none 0 0,.int .i64 i,.int .i64 63])
theorem suf_last (s:List UInt8):Lib.hasSuffix s [10]=decide (s.getLast? = some 10):=by
 unfold Lib.hasSuffix;rcases List.eq_nil_or_concat s with rfl | ⟨l,c,rfl⟩
 ·rfl
 ·rw [List.concat_eq_append,List.getLast?_append];by_cases h:c=10
  ·subst h;rw [List.isSuffixOf_iff_suffix.2 ⟨l,rfl⟩];simp
  ·rw [decide_eq_false (by simpa using h)];cases hb:List.isSuffixOf [10] (l++[c]) with
   | false=>rfl
   | true =>
    obtain ⟨t,ht⟩:=List.isSuffixOf_iff_suffix.1 hb;have:=List.append_inj_right' ht rfl;cases this
    exact absurd rfl h
theorem trim_last {s:List UInt8} (h:Lib.hasSuffix s [10]=true):Lib.trimSuffix s [10]=s.dropLast:=by
 unfold Lib.trimSuffix;rw [if_pos h];rw [List.dropLast_eq_take];rfl
theorem lkOf_head {s x:List UInt8} {l:List (List UInt8)} (h1:¬ 65536 < s.length) (h2:Lib.hasSuffix s [10]=true) (h3:splitC 10 s.dropLast=x :: l):lkOf s=if x=lockW then pinsG [] l else none:=by
 rw [suf_last] at h2;unfold lkOf;rw [if_neg (fun h=>h.elim h1 (fun h=>h (of_decide_eq_true h2))),h3]
theorem ss_tail {w:World} {sb so n c:Nat} {x:Value} {xs:List Value} (h:Sl w No 9 (.slice (some ⟨sb,so,none⟩) (n+1) c) (n+1) (x :: xs)) (hx:(x :: xs).length=n+1) (hc:n+1<=c) :
  ∃ ra:Option Addr,(∀ W,(Instr.slice 38 (.slice (some ⟨sb,so,none⟩) (n+1) c) (some (.int .i64 1)) none none).run prog W=.ok (.slice ra n (c - 1)) W)/\Sl w No 9 (.slice ra n (c - 1)) n xs:=by
 refine ⟨_,fun W=>?_,Sl.dropN h (m:=1) hx (by omega)⟩
 have h1:(1:Int)<=((n+1:Nat):Int):=by omega
 have h2:((n+1:Nat):Int)<=(c:Int):=by omega
 go_simp
 intro hlt;exact absurd hlt (by omega)
theorem lparse_lean (w:World) (hgl:Gl w) :
  Calls prog 67 #[strV lockHead] w fun e w'=>LkRes w' lockHead e/\Mod No w w':=by
 obtain ⟨s,hs0⟩:∃ s,s=lockHead:=⟨_,rfl⟩
 rw [<- hs0];have hs:s.length<=1000000:=by rw [hs0];decide
 have hlong:¬ 65536 < s.length:=by rw [hs0];decide
 have hsuf:Lib.hasSuffix s [10]=true:=by rw [hs0];rfl
 have hone:splitC 10 s.dropLast=[lockW]:=by rw [hs0];rfl
 clear hs0;refine calls_hide fun R hR=>?_
 have hmf:∀ (fn:Fn) (first cap:Array Value) (w:World),(Instr.makeFunc fn first cap).run prog w=.ok (.func fn first cap) w:=fun _ _ _ _=>rfl
 have hz:=str_len3 s;have HSF:=zh (show ∀ W,Calls prog 111 #[strV s,.string ⟨#[10]⟩] W fun e w'=>e=.returned (.bool (Lib.hasSuffix s [10]))/\w'=W from fun W=>Tryz.strings_HasSuffix ⟨s.toArray⟩ ⟨#[10]⟩ W (by rw [str_len3];omega));have HTS:=zh (show ∀ W,Calls prog 113 #[strV s,.string ⟨#[10]⟩] W fun e w'=>e=.returned (strV (Lib.trimSuffix s [10]))/\w'=W from fun W=>Tryz.strings_TrimSuffix ⟨s.toArray⟩ ⟨#[10]⟩ W (by rw [str_len3];omega));have HSP:=zh (fun W h=>split_any 10 s.dropLast (by rw [List.length_dropLast];omega) W h);have HSM:=zh (fun (x:List UInt8) (hx:x ∈ splitC 10 s.dropLast)=>show x.length<=s.length by have:=splitC_mem_le 10 s.dropLast x hx;rw [List.length_dropLast] at this;omega);have HSL:=zh (show (splitC 10 s.dropLast).length<=s.length+1 by have:=splitC_length_le 10 s.dropLast;rw [List.length_dropLast] at this;omega);have HNE:=zh (splitC_ne 10 s.dropLast);have hsI:(s.length:Int)<=1000000:=by omega
 obtain ⟨p,hpe⟩:∃ p,p=w.heap.size:=⟨_,rfl⟩
 obtain ⟨q,hqe⟩:∃ q,q=w.heap.size+1:=⟨_,rfl⟩
 obtain ⟨r,hre⟩:∃ r,r=w.heap.size+2:=⟨_,rfl⟩
 obtain ⟨w1,hw1⟩:∃ w1,w1=((w.alloc (.cells #[.slice none 0 0] 25)).alloc (.cells #[.int .i64 0] 3)).alloc (.cells #[.int .i64 0] 36):=⟨_,rfl⟩
 have m1:Mod No w w1:=by rw [hw1];exact (((Mod.refl No w).alloc _).alloc _).alloc _
 have hp:w1.heap[p]? = some (.cells #[.slice none 0 0] 25 (0,0)):=by
  rw [hw1,hpe];exact heap_alloc_old _ (heap_alloc_old _ (heap_alloc_new w _))
 have hq:w1.heap[q]? = some (.cells #[.int .i64 0] 3 (0,0)):=by
  rw [hw1,hqe];exact heap_alloc_old _ (heap_at_new _ _ (by simp))
 have hr:w1.heap[r]? = some (.cells #[.int .i64 0] 36 (0,0)):=by
  rw [hw1,hre];exact heap_at_new _ _ (by simp)
 have HGLT:=zh (show 2 < w.heap.size by obtain ⟨x,hx⟩:=hgl;exact lt_of_cell hx);unfold strV at *;generalize (⟨s.toArray⟩:ByteArray)=Z at *;have HG:=zh hgl;have HW1:=zh hw1;have M1:=zh m1;have HP:=zh hp;have HQ:=zh hq;have HR:=zh hr;have HPQ:=zh (show w.heap.size<=p/\w.heap.size<=q/\w.heap.size<=r/\p ≠ q/\p ≠ r/\q ≠ r by omega);have HPE:=zh hpe;have HQE:=zh (show q=p+1 by omega);have HRE:=zh (show r=p+1+1 by omega);clear hw1 m1 hp hq hr hgl hpe hqe hre;go_enter_defers func67,ntmps67
 have hlI:(s.length:Int)<=65536:=by omega
 have HS65:=zh (show s.length<=65536 by omega);have HHD:=zh (fun x l h=>lkOf_head (x:=x) (l:=l) hlong hsuf h);rw [trim_last hsuf] at HTS;rw [hsuf] at HSF;clear hsuf hlong;go_wp2_with fail
 rw [<- HW1.out,<- HPE.out,<- HRE.out,<- HQE.out];with_reducible refine (HSF.out _).mono ?_
 rintro e w9 ⟨rfl,h9⟩;rw [h9];clear h9 w9;go_wp2_with fail
 with_reducible refine (lmust_yes 0 _).mono ?_
 rintro e w3 ⟨rfl,h9⟩;rw [h9];clear h9 w3;clear hlI;go_wp2_with fail
 with_reducible refine (HTS.out _).mono ?_
 rintro e w9 ⟨rfl,h9⟩;rw [h9];clear h9 w9;go_wp2_with fail
 with_reducible refine (HSP.out _ (HG.out.stay M1.out (fun f=>f))).mono ?_
 rintro e w2 ⟨sv,rfl,hown,hm2⟩;have HM2:=zh (M1.out.trans hm2);have HP2:=zh (hm2.keep HP.out (fun f=>f));have HQ2:=zh (hm2.keep HQ.out (fun f=>f));have HR2:=zh (hm2.keep HR.out (fun f=>f));have HS2:=zh (Sl.of_own (X:=No) hown (fun k hk f=>f));clear hm2 HP HQ HR M1 hown HSP HSF HTS;obtain ⟨sa,sc,rfl⟩:=HS2.out.len;have hne:=HNE.out;have hsl:=HSL.out;have hsm:=HSM.out;have hhd:=HHD.out;clear HSM HHD HNE HSL HW1;generalize splitC 10 s.dropLast=ws at *;obtain ⟨h,ls,rfl⟩:∃ h l,ws=h :: l:=by
  cases ws with
  | nil=>exact absurd rfl hne
  | cons h l=>exact ⟨h,l,rfl⟩
 obtain ⟨hh,hls0⟩:h=lockW/\ls=[]:=by simpa using hone
 clear hone;have HLK:=zh (hhd h ls rfl);obtain ⟨n,hn⟩:∃ n,n=ls.length:=⟨_,rfl⟩
 have hwn:(h :: ls).length=n+1:=by rw [hn];rfl
 rw [hwn] at hsl HS2;rw [hwn];have HNL:=zh hn;have HN0:=zh (show n=0 by rw [hn,hls0];rfl);have HSM:=zh hsm;obtain ⟨sb,so,sc',hsv,hsc1,hsc2,_⟩:=HS2.out.shape (by omega);cases hsv
 have ca:w2.cell? ⟨sb,so,none⟩=some (strV h):=HS2.out.cellN (i:=0) (by simp [strs]);have HWN:=zh hwn;have hT:=str_list h;unfold strV at *;generalize (⟨h.toArray⟩:ByteArray)=H at *;clear hne hhd hwn hn hsm hls0;subst hh;rw [if_pos rfl] at HLK;have hTl:H.toList=[108,111,99,107,32,49]:=hT;clear hT;go_wp2_with fail
 with_reducible refine (lmust_yes 0 _).mono ?_
 rintro e w3 ⟨rfl,h9⟩;rw [h9];clear h9 w3;clear ca hTl;obtain ⟨ra,hsli,hrs⟩:=ss_tail (xs:=strs ls) HS2.out (by rw [<- HWN.out];simp) hsc1;have HRS:=zh hrs;have hn0:(0:Int)<=(n:Int):=Int.natCast_nonneg _;clear hrs HS2;obtain ⟨B,hB⟩:∃ B,B=w2.heap.size:=⟨_,rfl⟩
 have HBE:=zh hB;have HGL2:=zh (HG.out.stay HM2.out (fun f=>f));have HPB:=zh (show p < B/\q < B/\r < B by
  have:=lt_of_heap HP2.out;have:=lt_of_heap HQ2.out;have:=lt_of_heap HR2.out;omega)
 clear hB;go_wp2_with fail
 go_loopw [29] (fun u wr=>∃ (k m:Nat) (oa:Option Addr) (oc:Nat) (xs:List PnX),k<=n/\u=.int .i64 (k:Int)/\wr.heap[p]? = some (.cells #[.slice oa m oc] 25 (0,0))/\m=xs.length/\wr.ownsRow B 120 37 (.slice oa m oc) m (xs.flatMap PnX.cells)/\(∀ x ∈ xs,PnO wr x)/\m<=200/\Mod (fun i=>i=p\/B<=i) w2 wr/\pinsG [] ls=pinsG (xs.map PnX.p) (ls.drop k)) (fun u _=>n - (intOf u).toNat)
 case atStart=>exact ⟨0,0,none,0,[],by omega,rfl,HP2.out,rfl,⟨by simp,.inl ⟨rfl,rfl⟩⟩,(fun x hx=>by cases hx),by omega,Mod.refl _ _,by simp⟩
 case round =>
  obtain ⟨k,m,oa,oc,xs,hk,rfl,hpr,hmx,how,hex,hm200,hmo,hgo⟩:=hrel;have HPR:=zh hpr;have HMX:=zh hmx;have HOW:=zh how;have HEX:=zh hex;have HMO:=zh hmo;have HGO:=zh hgo;have HQR:=zh (hmo.keep HQ2.out (fun h=>by have:=HPQ.out;have:=HPB.out;omega));have HRR:=zh (hmo.keep HR2.out (fun h=>by have:=HPQ.out;have:=HPB.out;omega));have HMR:=zh (show Mod No w wr from HM2.out.then hmo (fun i hi h=>by have:=HPQ.out;have:=HBE.out;have:=HM2.out.size;omega));have HGLR:=zh (HGL2.out.stay hmo (fun h=>by have:=HGLT.out;have:=HPQ.out;have:=HBE.out;have:=HM2.out.size;rcases h with h | h <;> omega));have hk0:(0:Int)<=(k:Int):=Int.natCast_nonneg _;have hm0:(0:Int)<=(m:Int):=Int.natCast_nonneg _;clear hpr hmx how hex hmo hgo;obtain rfl:k=n:=by have:=HN0.out;omega
  have hk1:¬ ((k:Int) < (k:Int)):=by omega
  have HRES:=zh (show lkOf s=some (xs.map PnX.p) by rw [HLK.out,HGO.out,HNL.out,List.drop_length];rfl);obtain ⟨w8,hw8⟩:∃ w8,w8=((wr.setCell ⟨p,0,none⟩ (.slice oa m oc)).setCell ⟨q,0,none⟩ (.int .i64 0)).setCell ⟨r,0,none⟩ (.int .i64 0):=⟨_,rfl⟩
  have hmA:Mod (fun i=>i=p) wr (wr.setCell ⟨p,0,none⟩ (.slice oa m oc)):=Mod.cell1 _ _ _ _;have hmB:Mod (fun i=>i=q) (wr.setCell ⟨p,0,none⟩ (.slice oa m oc)) ((wr.setCell ⟨p,0,none⟩ (.slice oa m oc)).setCell ⟨q,0,none⟩ (.int .i64 0)):=Mod.cell1 _ _ _ _;have hmC:Mod (fun i=>i=r) ((wr.setCell ⟨p,0,none⟩ (.slice oa m oc)).setCell ⟨q,0,none⟩ (.int .i64 0)) w8:=by rw [hw8];exact Mod.cell1 _ _ _ _
  have hne:=HPQ.out;have pA:(wr.setCell ⟨p,0,none⟩ (.slice oa m oc)).heap[p]? = some (.cells #[.slice oa m oc] 25 (0,0)):=by rw [heap_setCell HPR.out _];rfl
  have qA:=hmA.keep HQR.out (fun e=>hne.2.2.2.1 e.symm);have rA:=hmA.keep HRR.out (fun e=>hne.2.2.2.2.1 e.symm);have pB:=hmB.keep pA (fun e=>hne.2.2.2.1 e);have qB:((wr.setCell ⟨p,0,none⟩ (.slice oa m oc)).setCell ⟨q,0,none⟩ (.int .i64 0)).heap[q]? = some (.cells #[.int .i64 0] 3 (0,0)):=by rw [heap_setCell qA _];rfl
  have rB:=hmB.keep rA (fun e=>hne.2.2.2.2.2 e.symm);have pC:=hmC.keep pB (fun e=>hne.2.2.2.2.1 e);have qC:=hmC.keep qB (fun e=>hne.2.2.2.2.2 e);have rC:w8.heap[r]? = some (.cells #[.int .i64 0] 36 (0,0)):=by rw [hw8,heap_setCell rB _];rfl
  have hm8:Mod (fun i=>i=p\/i=q\/i=r) wr w8:=((hmA.weaken (fun _ _ e=>.inl e)).trans (hmB.weaken (fun _ _ e=>.inr (.inl e)))).trans (hmC.weaken (fun _ _ e=>.inr (.inr e)));have hap:Apart [9] (fun i=>i=p\/i=q\/i=r) wr:=fun i cur fz e hi hc2 he=>by
   rcases hi with rfl | rfl | rfl
   ·rw [HPR.out] at hc2;cases hc2;simp at he
   ·rw [HQR.out] at hc2;cases hc2;simp at he
   ·rw [HRR.out] at hc2;cases hc2;simp at he
  have HSZ:=zh (show Sl w8 No 120 (.slice oa m oc) m (xs.flatMap PnX.cells) from Sl.of_own (own_keepM HOW.out hm8 (fun i hi e=>by have:=own_atB HOW.out hi;have:=HPB.out;omega)) (fun _ _ f=>f));have HEZ:=zh (show ∀ x ∈ xs,PnO w8 x from fun x hx=>(HEX.out x hx).keep hm8 hap);have HMZ:=zh (show Mod No w w8 from HMR.out.then hm8 (fun i hi e=>by omega));have HCZ:=zh (And.intro pC (And.intro qC rC));have HW8:=zh hw8;have a1:=cell_ofA HPR.out (i:=0) rfl;have a2:=frozen_of 0 HPR.out;have b1:=cell_ofA qA (i:=0) rfl;have b2:=frozen_of 0 qA;have d1:=cell_ofA rB (i:=0) rfl;have d2:=frozen_of 0 rB;clear hmA hmB hmC hne pA qA rA pB qB rB pC qC rC hm8 hap hw8;go_wp2_with fail
  rw [<- HW8.out];refine leaves_cons (f:=109) (args:=#[.pointer (some ⟨p,0,none⟩),.pointer (some ⟨q,0,none⟩),.pointer (some ⟨r,0,none⟩)]) (by simp) (by simp [go_sem]) ?_;refine (lstop_idle p q r _).mono ?_;rintro e u' w'' ⟨rfl,rfl,rfl⟩;have r1:=cell_ofA HCZ.out.1 (i:=0) rfl;have r2:=cell_ofA HCZ.out.2.1 (i:=0) rfl;have r3:=cell_ofA HCZ.out.2.2 (i:=0) rfl;refine ⟨.tuple #[.slice oa m oc,.int .i64 0,.int .i64 0],?_,?_⟩
  ·simp [results,results67,go_sem,r1,r2,r3]
  ·exact fin hR ⟨by unfold LkRes;rw [HRES.out];exact ⟨xs,_,rfl,rfl,by rw [<- HMX.out];exact HSZ.out,HEZ.out,by rw [<- HMX.out];exact hm200⟩,HMZ.out⟩
end Go.Proofs.YticfcmdjplmaeaaGreatDoor
