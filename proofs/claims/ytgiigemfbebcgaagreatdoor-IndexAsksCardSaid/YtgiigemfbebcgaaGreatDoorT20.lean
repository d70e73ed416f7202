/-
  Layers 0 to 14: helps of the laws of indexes. No statement is proved here; no condition.
-/
import Derived.Test.YtgiigemfbebcgaaGreatDoorT11
import Derived.Test.YtgiigemfbebcgaaGreatDoorT03
import Derived.Test.YtgiigemfbebcgaaGreatDoorT06
import Derived.Test.YtgiigemfbebcgaaGreatDoorT02
import Derived.Test.YtgiigemfbebcgaaGreatDoorT13
namespace Go.Proofs.YtgiigemfbebcgaaGreatDoor
open _root_.Go.Proofs.Tryz
open Go.RowKit
theorem nameB_ne {l:List UInt8} (h:l ≠ []):nameB l=(decide (l.length<=32) && smallB (l.getD 0 0) && l.all nameC):=by
 cases l with
 | nil=>exact absurd rfl h
 | cons c l=>rfl
set_option maxRecDepth 100000 in
theorem small_any (c:UInt8) (w:World):Calls prog 139 #[.int .u8 (c.toNat:Int)] w fun e w'=>e=.returned (.bool (smallB c))/\w'=w:=by
 refine calls_hide fun R hR=>?_
 have HS:=zh (show smallB c=(decide (97<=c.toNat) && decide (c.toNat<=122)) from rfl)
 generalize smallB c=s at *
 generalize c.toNat=x at *
 go_enter func139,ntmps139
 by_cases h97:(97:Int)<=(x:Int)
 ·go_wp2_with fail
  refine fin hR ⟨bool_ret ?_,rfl⟩
  rw [HS.out,decide_eq_true (by omega:97<=x)]
  simp
  omega
 ·go_wp2_with fail
  refine fin hR ⟨bool_ret ?_,rfl⟩
  rw [HS.out,decide_eq_false (by omega:¬ 97<=x)]
  simp
set_option maxRecDepth 100000 in
set_option maxHeartbeats 4000000 in
theorem name_any (l:List UInt8) (hl:l.length<=1000000) (w:World):Calls prog 105 #[strV l] w fun e w'=>e=.returned (.bool (nameB l))/\w'=w:=by
 refine calls_hide fun R hR=>?_
 have HX:=zh (run_at l)
 have HX0:=zh (show 0 < l.length->∀ W,(Instr.index 9 (.string ⟨l.toArray⟩) (.int .i64 0)).run prog W=.ok (.int .u8 ((l.getD 0 0).toNat:Int)) W from fun h W=>by
  rw [List.getD_eq_getElem?_getD,List.getElem?_eq_getElem h];exact run_at l 0 h W)
 have HZ:=zh (str_len3 l)
 have HSM:=zh small_any
 have hT:=str_list l
 unfold strV at *
 generalize (⟨l.toArray⟩:ByteArray)=Z at *
 have hZs:(Z.size:Int)=(l.length:Int):=by rw [HZ.out]
 go_enter func105,ntmps105
 by_cases h0:l=[]
 ·subst h0
  have h00:([]:List UInt8).isEmpty=true:=rfl
  go_wp2_with fail
  refine fin hR ⟨bool_ret ?_,rfl⟩
  rfl
 have HNB:=zh (nameB_ne h0)
 have hie:l.isEmpty=false:=by simpa using h0
 have hn1:0 < l.length:=List.length_pos_iff.2 h0
 by_cases h32:(32:Int) < (l.length:Int)
 ·go_wp2_with fail
  refine fin hR ⟨bool_ret ?_,rfl⟩
  rw [HNB.out,decide_eq_false (by omega:¬ l.length<=32)]
  rfl
 have hidx0:=HX0.out hn1
 have HNC:=zh (show nameB l=(smallB (l.getD 0 0) && l.all nameC) by
  rw [HNB.out,decide_eq_true (by omega:l.length<=32)];rfl)
 clear HNB HX0
 generalize l.getD 0 0=z0 at *
 have HS0:=zh (HSM.out z0)
 go_wp2_with fail
 with_reducible refine (HS0.out _).mono ?_
 rintro e wB ⟨rfl,rfl⟩
 rcases hs0:smallB z0 with _ | _
 ·go_wp2_with fail
  refine fin hR ⟨bool_ret ?_,rfl⟩
  rw [HNC.out,hs0]
  rfl
 have HND:=zh (show nameB l=l.all nameC by rw [HNC.out,hs0];rfl)
 clear HNC HS0 hs0
 go_wp2_with fail
 clear hidx0
 go_loopw [20] (fun q wr=>∃ k:Nat,k<=l.length/\q=.int .i64 k/\wr=wB/\∀ i (hi:i < l.length),i < k->nameC l[i]=true) (fun q _=>l.length - (intOf q).toNat)
 case atStart=>exact ⟨0,by omega,rfl,rfl,fun i _ hi=>absurd hi (by omega)⟩
 case round =>
  obtain ⟨k,hk,rfl,rfl,hall⟩:=hrel
  have hk0:(0:Int)<=(k:Int):=Int.natCast_nonneg _
  by_cases hlt:k < l.length
  ·have hk1:(k:Int) < (Z.size:Int):=by omega
   have hidx:=HX.out k hlt
   have HN:=zh (fun h=>all_take_succ (p:=nameC) hlt hall h)
   have HF:=zh (fun h=>not_all (p:=nameC) hlt h)
   have HS:=zh (show nameC l[k]=(smallB l[k] || (decide (48<=l[k].toNat) && decide (l[k].toNat<=57)) || decide (l[k].toNat=45)) from rfl)
   have HSK:=zh (HSM.out l[k])
   generalize nameC l[k]=sg at *
   generalize smallB l[k]=sk at *
   generalize l[k].toNat=x at *
   clear hall
   go_wp2_with fail
   with_reducible refine (HSK.out _).mono ?_
   rintro e w2 ⟨rfl,rfl⟩
   rcases sk with _ | _
   ·rcases (show (57 < x)\/(48<=x/\x<=57)\/x=45\/(x < 48/\x ≠ 45) by omega) with h | h | h | h
    ·have a3:(48:Int)<=(x:Int):=by omega
     have a4:¬ (x:Int)<=57:=by omega
     have a5:((x:Int) == 45)=false:=by rw [beq_eq_false_iff_ne];omega
     have HF2:=zh (HF.out (by rw [HS.out,<- Bool.not_eq_true];simp;omega))
     go_wp2_with fail
     refine fin hR ⟨bool_ret ?_,rfl⟩
     rw [HND.out,HF2.out]
    ·have a3:(48:Int)<=(x:Int):=by omega
     have a4:(x:Int)<=57:=by omega
     have hn:=HN.out (by rw [HS.out];simp;omega)
     have HN2:=zh hn
     clear hn
     go_wp2_with fail
     exact ⟨⟨k+1,by omega,rfl,trivial,HN2.out⟩,by show l.length - ((k:Int)+1).toNat < l.length - (k:Int).toNat;omega⟩
    ·have a3:¬ (48:Int)<=(x:Int):=by omega
     have a5:((x:Int) == 45)=true:=by simp;omega
     have hn:=HN.out (by rw [HS.out];simp;omega)
     have HN2:=zh hn
     clear hn
     go_wp2_with fail
     exact ⟨⟨k+1,by omega,rfl,trivial,HN2.out⟩,by show l.length - ((k:Int)+1).toNat < l.length - (k:Int).toNat;omega⟩
    ·have a3:¬ (48:Int)<=(x:Int):=by omega
     have a5:((x:Int) == 45)=false:=by rw [beq_eq_false_iff_ne];omega
     have HF2:=zh (HF.out (by rw [HS.out,<- Bool.not_eq_true];simp;omega))
     go_wp2_with fail
     refine fin hR ⟨bool_ret ?_,rfl⟩
     rw [HND.out,HF2.out]
   ·have hn:=HN.out (by rw [HS.out];rfl)
    have HN2:=zh hn
    clear hn
    go_wp2_with fail
    exact ⟨⟨k+1,by omega,rfl,trivial,HN2.out⟩,by show l.length - ((k:Int)+1).toNat < l.length - (k:Int).toNat;omega⟩
  ·have HA:=zh (all_of (p:=nameC) (by omega) hall)
   clear hall
   go_wp2_with fail
   refine fin hR ⟨bool_ret ?_,rfl⟩
   rw [HND.out,HA.out]
set_option maxRecDepth 100000 in
set_option maxHeartbeats 4000000 in
theorem indexbyte_any (n:Nat) (hn:n < 16) (w:World) :
  Calls prog 144 #[.string ⟨#[48,49,50,51,52,53,54,55,56,57,97,98,99,100,101,102]⟩,.int .u8 ((digit n).toNat:Int)] w fun e w'=>e=.returned (.int .i64 (n:Int))/\Mod No w w':=by
 refine calls_hide fun R hR=>?_
 have HF:=zh (show firstIdx ⟨#[48,49,50,51,52,53,54,55,56,57,97,98,99,100,101,102]⟩ ((digit n).toNat:Int).toNat.toUInt8=(n:Int) by
  match n,hn with
  | 0,_=>decide +kernel
  | 1,_=>decide +kernel
  | 2,_=>decide +kernel
  | 3,_=>decide +kernel
  | 4,_=>decide +kernel
  | 5,_=>decide +kernel
  | 6,_=>decide +kernel
  | 7,_=>decide +kernel
  | 8,_=>decide +kernel
  | 9,_=>decide +kernel
  | 10,_=>decide +kernel
  | 11,_=>decide +kernel
  | 12,_=>decide +kernel
  | 13,_=>decide +kernel
  | 14,_=>decide +kernel
  | 15,_=>decide +kernel
  | k+16,h=>exact absurd h (by omega))
 have HI:=zh (fun W=>run_indexByte_string (P:=prog) ⟨#[48,49,50,51,52,53,54,55,56,57,97,98,99,100,101,102]⟩ ((digit n).toNat:Int) W)
 rw [HF.out] at HI
 generalize ((digit n).toNat:Int)=d at *
 have HC:∀ W,Calls prog 167 #[.string ⟨#[48,49,50,51,52,53,54,55,56,57,97,98,99,100,101,102]⟩,.int .u8 d] W fun e w'=>e=.returned (.int .i64 (n:Int))/\w'=W:=fun W=>by
  clear hR R
  refine calls_hide fun R2 hR2=>?_
  have hi:Sem.run prog (callFunc 195 #[.string ⟨#[48,49,50,51,52,53,54,55,56,57,97,98,99,100,101,102]⟩,.int .u8 d]) W=.ok (.value (.int .i64 (n:Int))) W:=by
   rw [run_callFunc_extern func195 (by kernel_rfl) (by kernel_rfl) (by kernel_rfl) (e:=Extern.BytealgIndexByte.indexByte) (by kernel_rfl),HI.out W];rfl
  go_enter func167,ntmps167
  go_wp2_with fail
  exact fin hR2 ⟨rfl,rfl⟩
 clear HI
 go_enter func144,ntmps144
 go_wp2_with fail
 refine (HC w).mono ?_
 rintro e w1 ⟨rfl,rfl⟩
 go_wp2_with fail
 exact fin hR ⟨rfl,Mod.refl _ _⟩
set_option maxRecDepth 100000 in
theorem lit36 (t:Array Value) (h:t.size=36):∃ c:Nat->Value,t=#[c 0,c 1,c 2,c 3,c 4,c 5,c 6,c 7,c 8,c 9,c 10,c 11,c 12,c 13,c 14,c 15,c 16,c 17,c 18,c 19,c 20,c 21,c 22,c 23,c 24,c 25,c 26,c 27,c 28,c 29,c 30,c 31,c 32,c 33,c 34,c 35]/\∀ i,t.getD i undef=c i:=by
 refine ⟨fun i=>t.getD i undef,?_,fun _=>rfl⟩
 have h1:=arr_lits t
 rw [h] at h1
 exact h1.trans (by kernel_rfl)
def nib (S:List UInt8) (i:Nat):Nat:=if i % 2=0 then (S.getD (i / 2) 0).toNat / 16 else (S.getD (i / 2) 0).toNat % 16
def nibO (S:List UInt8) (i:Nat):Nat:=if i % 2=0 then 0 else (S.getD (i / 2) 0).toNat / 16
def keyN (S:List UInt8) (i:Nat):List UInt8:=(List.range 32).map fun j=>if 2*j+2<=i then S.getD j 0 else if 2*j+1=i then UInt8.ofNat ((S.getD j 0).toNat / 16) else 0
theorem nib_lt (S:List UInt8) (i:Nat):nib S i < 16:=by
 unfold nib
 have:=UInt8.toNat_lt (S.getD (i / 2) 0)
 split <;> omega
theorem nibO_lt (S:List UInt8) (i:Nat):nibO S i < 16:=by
 unfold nibO
 have:=UInt8.toNat_lt (S.getD (i / 2) 0)
 split <;> omega
theorem hexL_get:∀ (S:List UInt8) (i:Nat),i < 2*S.length->(hexL S)[i]? = some (digit (nib S i))
 | [],i,h=>absurd h (by simp)
 | c :: S,0,_=>rfl
 | c :: S,1,_=>rfl
 | c :: S,i+2,h=>by
  have ih:=hexL_get S i (by simp at h;omega)
  have e1:hexL (c :: S)=digit (c.toNat / 16) :: digit (c.toNat % 16) :: hexL S:=rfl
  have e2:nib (c :: S) (i+2)=nib S i:=by
   unfold nib
   rw [show (i+2) % 2=i % 2 by omega,show (i+2) / 2=i / 2+1 by omega]
   rfl
  rw [e1,e2]
  exact ih
theorem keyN_full {S:List UInt8} (hS:S.length=32):keyN S 64=S:=by
 apply List.ext_getElem?
 intro j
 unfold keyN
 rw [List.getElem?_map]
 by_cases hj:j < 32
 ·rw [List.getElem?_range hj,List.getElem?_eq_getElem (by omega)]
  simp only [Option.map_some]
  rw [if_pos (by omega),List.getD_eq_getElem?_getD,List.getElem?_eq_getElem (by omega)];rfl
 ·rw [List.getElem?_eq_none (by simp;omega),List.getElem?_eq_none (by omega)];rfl
theorem keyN_length (S:List UInt8) (i:Nat):(keyN S i).length=32:=by simp [keyN]
theorem keyN_get (S:List UInt8) {i:Nat} (hi:i < 64):(bv (keyN S i)).toArray[i / 2]? = some (.int .u8 (nibO S i:Int)):=by
 rw [List.getElem?_toArray]
 unfold keyN bv
 rw [List.getElem?_map,List.getElem?_map,List.getElem?_range (by omega)]
 simp only [Option.map_some]
 rw [if_neg (by omega)]
 unfold nibO
 have:=UInt8.toNat_lt (S.getD (i / 2) 0)
 by_cases h:i % 2=0
 ·rw [if_neg (by omega),if_pos h];rfl
 ·rw [if_pos (by omega),if_neg h,UInt8.toNat_ofNat']
  congr 2
  omega
theorem keyN_set (S:List UInt8) {i:Nat} (hi:i < 64):(bv (keyN S i)).toArray.setIfInBounds (i / 2) (.int .u8 ((nibO S i*16+nib S i:Nat):Int))=(bv (keyN S (i+1))).toArray:=by
 rw [List.setIfInBounds_toArray]
 congr 1
 apply List.ext_getElem?
 intro j
 have hlt:=UInt8.toNat_lt (S.getD (i / 2) 0)
 by_cases hj:i / 2=j
 ·subst hj
  rw [List.getElem?_set_self (by rw [bv_length,keyN_length];omega)]
  unfold keyN bv
  rw [List.getElem?_map,List.getElem?_map,List.getElem?_range (by omega)]
  simp only [Option.map_some]
  unfold nibO nib
  by_cases h:i % 2=0
  ·rw [if_pos h,if_pos h,if_neg (by omega),if_pos (by omega),UInt8.toNat_ofNat']
   congr 3
   omega
  ·rw [if_neg h,if_neg h,if_pos (by omega)]
   congr 3
   omega
 ·rw [List.getElem?_set_ne hj]
  unfold keyN bv
  rw [List.getElem?_map,List.getElem?_map,List.getElem?_map,List.getElem?_map]
  by_cases h32:j < 32
  ·rw [List.getElem?_range h32]
   simp only [Option.map_some]
   congr 3
   by_cases h2:2*j+2<=i
   ·rw [if_pos h2,if_pos (by omega)]
   ·rw [if_neg h2,if_neg (by omega),if_neg (by omega),if_neg (by omega)]
  ·rw [List.getElem?_eq_none (by simp;omega)];rfl
theorem or_nib (a b:Nat) (ha:a < 16) (hb:b < 16):bits .or .u8 ((a:Int)*16) (b:Int)=((a*16+b:Nat):Int):=by
 have h1:(BitVec.ofInt 8 ((a:Int)*16)).toNat=a*16:=by
  rw [show (a:Int)*16=((a*16:Nat):Int) by omega,BitVec.ofInt_natCast,BitVec.toNat_ofNat];exact Nat.mod_eq_of_lt (by omega)
 have h2:(BitVec.ofInt 8 (b:Int)).toNat=b:=by rw [BitVec.ofInt_natCast,BitVec.toNat_ofNat];exact Nat.mod_eq_of_lt (by omega)
 have e:2 ^ 4*a+b=2 ^ 4*a ||| b:=Nat.two_pow_add_eq_or_of_lt (by omega) a
 show IntKind.u8.wrap ((BitVec.ofInt 8 ((a:Int)*16) ||| BitVec.ofInt 8 (b:Int)).toNat:Int)=_
 rw [BitVec.toNat_or,h1,h2,show a*16=2 ^ 4*a by omega,<- e,IntKind.wrap_u8]
 omega
noncomputable def bodyQ:Code:=Tryz.f107.body.getD .skip
noncomputable def blkQ0:Code:=(blockAt 0 bodyQ).getD .skip
def LpQ (w0:World) (S:List UInt8) (Z:ByteArray) (v2:Value) (kb:Nat) (k:Nat) (a:Act) (w:World):Prop :=
 ∃ i,i+k=64/\Mod (fun p=>p=kb) w0 w/\w.heap[kb]? = some (.cells (bv (keyN S i)).toArray 43 (0,0))/\Fr 36 [(0,.string Z),(2,v2),(3,.bool false),(4,.pointer (some ⟨kb,0,none⟩)),(12,.int .i64 64),(13,.int .i64 (i:Int))] a
set_option maxRecDepth 100000 in
set_option maxHeartbeats 4000000 in
theorem parseloop_any (S:List UInt8) (Z:ByteArray) (v2:Value) (kb:Nat) (f:Act) (w:World)
  (hz:∀ i:Nat,i < 64->∀ W,(Instr.index 9 (.string Z) (.int .i64 (i:Int))).run prog W=.ok (.int .u8 ((digit (nib S i)).toNat:Int)) W)
  (hk:w.heap[kb]? = some (.cells (bv (keyN S 0)).toArray 43 (0,0)))
  (hF:Fr 36 [(0,.string Z),(2,v2),(3,.bool false),(4,.pointer (some ⟨kb,0,none⟩)),(12,.int .i64 64),(13,.int .i64 0)] f) :
  Code.wp prog blkQ0 (Exit.then (fun a' w'=>Fr 36 [(2,v2),(4,.pointer (some ⟨kb,0,none⟩))] a'/\w'.heap[kb]? = some (.cells (bv (keyN S 64)).toArray 43 (0,0))/\Mod (fun p=>p=kb) w w') Nope) f w:=by
 refine wp_part fun J K' hJ hK=>?_
 have H0:=zh (show LpQ w S Z v2 kb 64 f w from ⟨0,rfl,Mod.refl _ w,hk,hF⟩)
 have HJ:=zh hJ
 have HZ:=zh hz
 obtain ⟨w0,hw0⟩:∃ w0,w0=w:=⟨_,rfl⟩
 rw [<- hw0] at HJ H0
 clear hF hJ hk hz
 conv=>arg 2;whnf
 go_step
 refine wp_loop_ghost_k (LpQ w0 S Z v2 kb) 64 (by rw [hw0] at H0 ⊢;exact H0.out) ?_
 clear H0 hw0 f w
 intro k f w hI J2 K2 hJ2 hK2
 have HJ2:=zh hJ2
 obtain ⟨i,hik,hmod,hk,hF⟩:=hI
 have HM:=zh hmod
 have HK:=zh hk
 clear hJ2 hmod hk
 obtain ⟨ts,ds⟩:=f
 obtain ⟨hsz,hds,hs0,hs2,hs3,hs4,hs12,hs13,-⟩:=hF
 dsimp only at hsz hds hs0 hs2 hs3 hs4 hs12 hs13
 subst hds
 obtain ⟨c,rfl,hc⟩:=lit36 ts hsz
 rw [hc] at hs0
 rw [hc] at hs2
 rw [hc] at hs3
 rw [hc] at hs4
 rw [hc] at hs12
 rw [hc] at hs13
 simp only [hs0,hs2,hs3,hs4,hs12,hs13]
 clear hc hsz hs0 hs2 hs3 hs4 hs12 hs13
 have hi0:(0:Int)<=(i:Int):=Int.natCast_nonneg _
 by_cases hi:i < 64
 ·have hi64:(i:Int) < 64:=by omega
  have c0:=cell_ofA HK.out (keyN_get S hi)
  have f0:=frozen_of (i / 2) HK.out
  have HST:=zh (keyN_set S hi)
  have hidx:=HZ.out i hi
  have HOR:=zh (or_nib (nibO S i) (nib S i) (nibO_lt S i) (nib_lt S i))
  have HIB:=zh (indexbyte_any (nib S i) (nib_lt S i))
  have hb15:=nib_lt S i
  have ho15:=nibO_lt S i
  generalize nib S i=b at *
  generalize nibO S i=o at *
  generalize hdg:((digit b).toNat:Int)=dg at *
  obtain ⟨j,hj⟩:∃ j,j=i / 2:=⟨_,rfl⟩
  rw [<- hj] at c0 f0 HST
  have q1:(i:Int) / 2=(j:Int):=by omega
  have q1':Int.tdiv (i:Int) 2=(j:Int):=by rw [Int.tdiv_eq_ediv_of_nonneg hi0];exact q1
  have j0:(0:Int)<=(j:Int):=Int.natCast_nonneg _
  have j1:(j:Int) < 32:=by omega
  have b0:(0:Int)<=(b:Int):=Int.natCast_nonneg _
  have b1:(b:Int) < 16:=by omega
  have o0:(0:Int)<=(o:Int):=Int.natCast_nonneg _
  have o1:(o:Int) < 16:=by omega
  have C0:=zh (And.intro c0 f0)
  clear hj hdg c0 f0
  go_wp2_with fail
  with_reducible refine (HIB.out _).mono ?_
  rintro e w2 ⟨rfl,hm2⟩
  have c0:=hm2.cell C0.out.1 (fun f=>f)
  have HK2:=zh (hm2.keep HK.out (fun f=>f))
  have f0:=frozen_of j HK2.out
  have HM2:=zh (HM.out.then hm2 (fun i hi f=>f.elim))
  clear hm2 HIB
  go_wp2_with fail
  rw [HOR.out]
  exact Handed.intro (k - 1) (by omega) (HJ2.out _ _ _ ⟨i+1,by omega,HM2.out.setCell (fun _=>rfl) _,by rw [heap_setCell HK2.out,HST.out],rfl,rfl,rfl,rfl,rfl,rfl,rfl,by go_num,trivial⟩)
 ·have hi8:i=64:=by omega
  subst hi8
  go_wp2_with fail
  exact Met.intro (HJ.out _ _ ⟨⟨rfl,rfl,rfl,rfl,trivial⟩,HK.out,HM.out⟩)
theorem hexidx {S:List UInt8} (hS:S.length=32) (i:Nat) (hi:i < 64) (W:World):(Instr.index 9 (.string ⟨(hexL S).toArray⟩) (.int .i64 (i:Int))).run prog W=.ok (.int .u8 ((digit (nib S i)).toNat:Int)) W:=by
 have hl:(hexL S).length=64:=by rw [hexL_length,hS]
 have hsz:(⟨(hexL S).toArray⟩:ByteArray).size=64:=by rw [str_len3,hl]
 have hi2:(0:Int)<=(i:Int)/\(i:Int) < ((⟨(hexL S).toArray⟩:ByteArray).size:Int):=by rw [hsz];omega
 rw [run_index_string W 9 _ .i64 i underlying9,dif_pos hi2]
 have h1:=hexL_get S i (by omega)
 have h2:(⟨(hexL S).toArray⟩:ByteArray)[(i:Int).toNat]'(by rw [hsz];omega)=digit (nib S i):=by
  show (hexL S).toArray[i]'(by simp;omega)=_
  rw [List.getElem_toArray]
  rw [List.getElem?_eq_getElem (by omega)] at h1
  exact Option.some.inj h1
 rw [h2]
set_option maxRecDepth 100000 in
set_option maxHeartbeats 4000000 in
theorem parse_any (S:List UInt8) (hS:S.length=32) (w:World) :
  Calls prog 107 #[.string ⟨(hexL S).toArray⟩] w fun e w'=>e=.returned (.tuple #[keyV S,.bool true])/\Mod No w w':=by
 refine calls_hide fun R hR=>?_
 have hsz:(⟨(hexL S).toArray⟩:ByteArray).size=64:=by rw [str_len3,hexL_length,hS]
 have HX:=zh (hexidx hS)
 generalize (⟨(hexL S).toArray⟩:ByteArray)=Z at *
 go_enter func107,ntmps107
 go_upto_region 1 with fail
 obtain ⟨rb,hrb⟩:∃ g,g=w.heap.size:=⟨_,rfl⟩
 rw [<- hrb]
 generalize hw1:World.alloc w _=w1
 have HM1:=zh (show Mod No w w1 by rw [<- hw1];exact (Mod.refl No w).alloc _)
 have HR1:=zh (show w1.heap[rb]? = some (.cells (bv (keyN S 0)).toArray 43 (0,0)) by rw [<- hw1,hrb];exact heap_alloc_new w _)
 have HRB:=zh hrb
 clear hw1 hrb
 go_upto_region 2 with fail
 obtain ⟨kb,hkb⟩:∃ g,g=w1.heap.size:=⟨_,rfl⟩
 rw [<- hkb]
 generalize hw2:World.alloc w1 _=w2
 have HM2:=zh (show Mod No w1 w2 by rw [<- hw2];exact (Mod.refl No w1).alloc _)
 have HK2:=zh (show w2.heap[kb]? = some (.cells (bv (keyN S 0)).toArray 43 (0,0)) by rw [<- hw2,hkb];exact heap_alloc_new w1 _)
 have HKB:=zh hkb
 clear hw2 hkb
 go_upto_block 0 with fail
 rename_i K5 hK5
 refine wp_only (parseloop_any S Z _ kb _ w2 HX.out HK2.out ⟨rfl,rfl,rfl,rfl,rfl,rfl,rfl,rfl,trivial⟩) ?_
 rintro a3 w3 ⟨hF,hk3,hm3⟩
 have hr3:=hm3.keep (HM2.out.keep HR1.out (fun f=>f)) (fun e=>by have:=lt_of_heap HR1.out;have:=HKB.out;omega)
 have hmm:=HM1.out.then (HM2.out.then hm3 (S:=No) (fun i hi e=>absurd hi (by have:=HKB.out;omega))) (fun i hi f=>f)
 rw [keyN_full hS] at hk3
 refine hK5 _ _ ?_
 clear hm3 hK5 K5
 obtain ⟨ts,ds⟩:=a3
 obtain ⟨hsz,hds,hs2,hs4,-⟩:=hF
 dsimp only at hsz hds hs2 hs4
 subst hds
 obtain ⟨c,rfl,hc⟩:=lit36 ts hsz
 rw [hc] at hs2
 rw [hc] at hs4
 simp only [hs2,hs4]
 clear hc hsz hs2 hs4
 go_upto_region 12 with fail
 rename_i K7 hK7
 refine wp_region_lit ?_
 refine wpList_load_row rfl 43 _ rfl kb rfl 43 (bv S).toArray (0,0) _ hk3 underlying43 rfl (key_size hS) ?_
 refine wpList_store_row rfl 43 _ _ rfl rb (bv S).toArray rfl rfl 43 _ hr3 (key_size hS) (by simp [keyN_length,hS]) (by simp [bv,Value.oneCell']) ?_
 go_wp2_with fail
 have hr4:(w3.setRow rb (bv S).toArray).heap[rb]? = some (.cells (bv S).toArray 43 (0,0)):=setRow_heap _ _ _ _ _ _ hr3
 have hmm4:=zh (hmm.setRow (fun h=>by have:=HRB.out;omega) (bv S).toArray:Mod No w (w3.setRow rb (bv S).toArray))
 generalize w3.setRow rb (bv S).toArray=w4 at *
 have hl:=run_loadVar_row (P:=prog) w4 rb 43 43 (bv S).toArray (0,0) _ hr4 underlying43 rfl (key_size hS)
 exact bodyPost_ret (v:=.tuple #[keyV S,.bool true]) (by simp [results,results107,asAddr,hl]) rfl (fin hR ⟨rfl,hmm4.out⟩)
theorem info_str:(prog.info? 9).map (fun i=>(i.zero,i.size,i.bytes))=some (some (.string ⟨#[]⟩),1,16):=by kernel_rfl
theorem split_step_none {c:UInt8} {l:List UInt8} {fr:Nat} (h:∀ i (hi:i < l.length),fr<=i->i < l.length->l[i] ≠ c):splitC c (l.drop fr)=[l.drop fr]:=splitC_none fun d hd=>by
 obtain ⟨i,hi,rfl⟩:=List.getElem_of_mem hd
 rw [List.getElem_drop]
 rw [List.length_drop] at hi
 exact h _ (by omega) (by omega) (by omega)
theorem split_step_hit {c:UInt8} {l:List UInt8} {fr k:Nat} (hk:k < l.length) (hfr:fr<=k) (h:∀ i (hi:i < l.length),fr<=i->i < k->l[i] ≠ c) (hc:l[k]=c):splitC c (l.drop fr)=(l.drop fr).take (k - fr) :: splitC c (l.drop (k+1)):=by
 have e:l.drop fr=(l.drop fr).take (k - fr)++c :: l.drop (k+1):=by
  conv=>lhs;rw [<- List.take_append_drop (k - fr) (l.drop fr)]
  rw [List.drop_drop,show fr+(k - fr)=k by omega,List.drop_eq_getElem_cons hk,hc]
 conv=>lhs;rw [e]
 refine splitC_hit _ fun d hd=>?_
 obtain ⟨i,hi,rfl⟩:=List.getElem_of_mem hd
 rw [List.length_take,List.length_drop] at hi
 rw [List.getElem_take,List.getElem_drop]
 exact h _ (by omega) (by omega) (by omega)
set_option maxRecDepth 100000 in
set_option maxHeartbeats 4000000 in
theorem refsplit_any (c:UInt8) (l:List UInt8) (hl:l.length<=1000000) (w:World) :
  Calls prog 44 #[strV l,.int .u8 (c.toNat:Int)] w fun e w'=>∃ v,e=.returned v/\w'.ownsRow w.heap.size 9 1 v (splitC c l).length (strs (splitC c l))/\Mod No w w':=by
 refine calls_hide fun R hR=>?_
 obtain ⟨i0,hi0,hz0,hz1,hz2⟩:=info_parts info_str
 have HX:=zh (run_at l)
 have HEX:=zh (str_part l)
 have HZ:=zh (str_len3 l)
 have hT:=str_list l
 unfold strV at *
 generalize (⟨l.toArray⟩:ByteArray)=Z at *
 have hZs:(Z.size:Int)=(l.length:Int):=by rw [HZ.out]
 have HCT:=zh (fun d:UInt8=>@UInt8.toNat_inj d c)
 have hlen:=splitC_length_le c l
 obtain ⟨x,hx⟩:∃ x:Nat,x=c.toNat:=⟨_,rfl⟩
 rw [<- hx]
 have HXC:=zh hx
 clear hx
 go_enter func44,ntmps44
 go_wp2_with fail
 go_loopw [5,6,7] (fun o f q wr=>∃ (k fr:Nat) (outs:List (List UInt8)),k<=l.length+1/\fr<=k/\q=.int .i64 k/\f=.int .i64 fr/\wr.ownsRow w.heap.size 9 1 o outs.length (strs outs)/\Mod No w wr/\outs.length<=k ∧
  ((k<=l.length/\(∀ i (hi:i < l.length),fr<=i->i < k->l[i] ≠ c)/\splitC c l=outs++splitC c (l.drop fr))\/(k=l.length+1/\splitC c l=outs))) (fun _ _ q _=>l.length+1 - (intOf q).toNat)
 case atStart=>exact ⟨0,0,[],by omega,by omega,rfl,rfl,⟨rfl,.inl ⟨rfl,rfl⟩⟩,Mod.refl _ _,by simp,.inl ⟨by omega,fun i _ _ h=>absurd h (by omega),rfl⟩⟩
 case round =>
  obtain ⟨k,fr,outs,hk,hfr,rfl,rfl,hown,hmod,hol,hcase⟩:=hrel
  have hk0:(0:Int)<=(k:Int):=Int.natCast_nonneg _
  have hf0:(0:Int)<=(fr:Int):=Int.natCast_nonneg _
  have hfk:(fr:Int)<=(k:Int):=by omega
  have HO:=zh hown
  have HM:=zh hmod
  have hbase:=hmod.size
  clear hown hmod
  by_cases hlt:k<=l.length
  ·obtain ⟨hno,hsp⟩:(∀ i (hi:i < l.length),fr<=i->i < k->l[i] ≠ c)/\splitC c l=outs++splitC c (l.drop fr):=by
    rcases hcase with ⟨_,h⟩ | ⟨h,_⟩
    ·exact h
    ·omega
   clear hcase
   have hk1:(k:Int)<=(Z.size:Int):=by omega
   have HNO:=zh hno
   have HSP:=zh hsp
   clear hno hsp
   by_cases hkl:k=l.length
   ·have HST:=zh (split_step_none (c:=c) (l:=l) (fr:=fr) (fun i hi h1 h2=>HNO.out i hi h1 (by omega)))
    subst hkl
    have hext:=HEX.out fr l.length
    have HPC:=zh (show (l.drop fr).take (l.length - fr)=l.drop fr from List.take_of_length_le (by rw [List.length_drop];omega))
    generalize (l.drop fr).take (l.length - fr)=pc at *
    clear HNO
    have HMA:=zh ((Mod.refl No wr).alloc (.cells #[.string ⟨pc.toArray⟩] 9))
    have HOA:=zh (own_keepM HO.out HMA.out (fun _ _ f=>f))
    have HSA:=zh (show Sl (wr.alloc (.cells #[.string ⟨pc.toArray⟩] 9)) No 9 (.slice (some ⟨wr.heap.size,0,none⟩) 1 1) 1 [.string ⟨pc.toArray⟩] from .inr ⟨wr.heap.size,0,1,_,(0,0),rfl,Nat.le_refl _,by decide,fun f=>f,heap_alloc_new wr _,by simp,fun i hi=>by
     have h0:i=0:=by simp at hi;exact hi
     subst h0;rfl⟩)
    have hbA:w.heap.size<=(wr.alloc (.cells #[.string ⟨pc.toArray⟩] 9)).heap.size:=Nat.le_trans hbase HMA.out.size
    go_wp2_with (at_builtin;refine app_sl _ rfl _ _ 38 rfl w.heap.size 9 i0 (.string ⟨#[]⟩) 1 16 underlying38 hi0 hz0 hz1 hz2 rfl (by decide) _ _ _ rfl HOA.out No 9 _ 1 [.string ⟨pc.toArray⟩] rfl HSA.out rfl (by simp [Value.oneCell']) ?_ ?_ hbA ?_)
    ·unfold maxLen;omega
    ·omega
    intro v' w2 hown2 hg2 _
    have HO2:=zh hown2
    have HM2:=zh ((HM.out.trans HMA.out).then (Mod.of_grown (S:=fun q=>w.heap.size<=q) hg2 (fun q e _=>(HOA.out.lt _ e).1)) (fun i hi hq=>absurd hi (by omega)))
    clear hown2 hg2
    obtain ⟨va,vc,rfl⟩:=own_len HO2.out
    go_wp2_with fail
    refine ⟨⟨l.length+1,l.length+1,outs++[pc],by omega,by omega,rfl,rfl,?_,HM2.out,by simp;omega,.inr ⟨by omega,?_⟩⟩,by show l.length+1 - ((l.length:Int)+1).toNat < l.length+1 - (l.length:Int).toNat;omega⟩
    ·rw [List.length_append,strs_append];exact HO2.out
    ·rw [HSP.out,HST.out,HPC.out]
   ·have hkl2:k < l.length:=by omega
    have hkq:¬ (k:Int)=(l.length:Int):=by omega
    have hidx:=HX.out k hkl2
    have hext:=HEX.out fr k
    have HCK:=zh (HCT.out l[k])
    by_cases hc:l[k]=c
    ·have hc2:l[k].toNat=x:=by rw [HXC.out,hc]
     rw [hc2] at hidx
     have HST:=zh (split_step_hit (c:=c) (l:=l) (fr:=fr) hkl2 hfr (fun i hi h1 h2=>HNO.out i hi h1 h2) hc)
     generalize (l.drop fr).take (k - fr)=pc at *
     clear HNO HCK hc2
     have HMA:=zh ((Mod.refl No wr).alloc (.cells #[.string ⟨pc.toArray⟩] 9))
     have HOA:=zh (own_keepM HO.out HMA.out (fun _ _ f=>f))
     have HSA:=zh (show Sl (wr.alloc (.cells #[.string ⟨pc.toArray⟩] 9)) No 9 (.slice (some ⟨wr.heap.size,0,none⟩) 1 1) 1 [.string ⟨pc.toArray⟩] from .inr ⟨wr.heap.size,0,1,_,(0,0),rfl,Nat.le_refl _,by decide,fun f=>f,heap_alloc_new wr _,by simp,fun i hi=>by
      have h0:i=0:=by simp at hi;exact hi
      subst h0;rfl⟩)
     have hbA:w.heap.size<=(wr.alloc (.cells #[.string ⟨pc.toArray⟩] 9)).heap.size:=Nat.le_trans hbase HMA.out.size
     go_wp2_with (at_builtin;refine app_sl _ rfl _ _ 38 rfl w.heap.size 9 i0 (.string ⟨#[]⟩) 1 16 underlying38 hi0 hz0 hz1 hz2 rfl (by decide) _ _ _ rfl HOA.out No 9 _ 1 [.string ⟨pc.toArray⟩] rfl HSA.out rfl (by simp [Value.oneCell']) ?_ ?_ hbA ?_)
     ·unfold maxLen;omega
     ·omega
     intro v' w2 hown2 hg2 _
     have HO2:=zh hown2
     have HM2:=zh ((HM.out.trans HMA.out).then (Mod.of_grown (S:=fun q=>w.heap.size<=q) hg2 (fun q e _=>(HOA.out.lt _ e).1)) (fun i hi hq=>absurd hi (by omega)))
     clear hown2 hg2
     obtain ⟨va,vc,rfl⟩:=own_len HO2.out
     go_wp2_with fail
     refine ⟨⟨k+1,k+1,outs++[pc],by omega,by omega,rfl,rfl,?_,HM2.out,by simp;omega,.inl ⟨by omega,fun i hi h1 h2=>by omega,?_⟩⟩,by show l.length+1 - ((k:Int)+1).toNat < l.length+1 - (k:Int).toNat;omega⟩
     ·rw [List.length_append,strs_append];exact HO2.out
     ·rw [HSP.out,HST.out,List.append_assoc];rfl
    ·have hc2:¬ l[k].toNat=x:=fun e=>hc (HCK.out.1 (by rw [e,HXC.out]))
     have HN2:=zh (show ∀ i (hi:i < l.length),fr<=i->i < k+1->l[i] ≠ c from fun i hi h1 h2=>by
      rcases Nat.lt_or_ge i k with h | h
      ·exact HNO.out i hi h1 h
      ·obtain rfl:i=k:=by omega
       exact hc)
     generalize l[k].toNat=y at *
     have hc3:((y:Int) == (x:Int))=false:=by rw [beq_eq_false_iff_ne];omega
     have hc4:((k:Int) == (l.length:Int))=false:=by rw [beq_eq_false_iff_ne];omega
     clear HNO HCK
     go_wp2_with fail
     refine ⟨⟨k+1,fr,outs,by omega,by omega,rfl,rfl,HO.out,HM.out,by omega,.inl ⟨by omega,HN2.out,HSP.out⟩⟩,by show l.length+1 - ((k:Int)+1).toNat < l.length+1 - (k:Int).toNat;omega⟩
  ·have hsp:splitC c l=outs:=by
    rcases hcase with ⟨h,_⟩ | ⟨_,h⟩
    ·omega
    ·exact h
   have HSP:=zh hsp
   have hk2:¬ (k:Int)<=(l.length:Int):=by omega
   clear hsp hcase
   go_wp2_with fail
   refine fin hR ⟨_,rfl,?_,HM.out⟩
   rw [HSP.out]
   exact HO.out
theorem words_le (l:List UInt8):(wordsL l).length<=l.length+1:=Nat.le_trans (List.length_filter_le _ _) (splitC_length_le 32 l)
theorem words_mem_le (l:List UInt8):∀ x ∈ wordsL l,x.length<=l.length/\x ≠ []:=fun x hx=>by
 obtain ⟨h1,h2⟩:=List.mem_filter.1 hx
 refine ⟨splitC_mem_le 32 l x h1,?_⟩
 rintro rfl
 cases h2
theorem filter_take {α:Type} (p:α->Bool) (l:List α) {k:Nat} (hk:k < l.length):(l.take (k+1)).filter p=(l.take k).filter p++(if p l[k] then [l[k]] else []):=by
 rw [List.take_succ_eq_append_getElem hk,List.filter_append,List.filter_cons]
 simp
theorem own_less {w:World} {B B':Nat} {e:TypeId} {size:Nat} {v:Value} {n:Nat} {xs:List Value} (h:w.ownsRow B e size v n xs) (hb:B'<=B):w.ownsRow B' e size v n xs:=by
 obtain ⟨hl,h | ⟨g,cap,cur,hv,hg,hr⟩⟩:=h
 ·exact ⟨hl,.inl h⟩
 ·exact ⟨hl,.inr ⟨g,cap,cur,hv,Nat.le_trans hb hg,hr⟩⟩
set_option maxRecDepth 100000 in
set_option maxHeartbeats 4000000 in
theorem refwords_any (l:List UInt8) (hl:l.length<=1000000) (w:World) :
  Calls prog 77 #[strV l] w fun e w'=>∃ v,e=.returned v/\w'.ownsRow w.heap.size 9 1 v (wordsL l).length (strs (wordsL l))/\Mod No w w':=by
 refine calls_hide fun R hR=>?_
 obtain ⟨i0,hi0,hz0,hz1,hz2⟩:=info_parts info_str
 have HSP:=zh (show ∀ w:World,Calls prog 44 #[strV l,.int .u8 32] w fun e w'=>∃ v,e=.returned v/\w'.ownsRow w.heap.size 9 1 v (splitC 32 l).length (strs (splitC 32 l))/\Mod No w w' from fun w=>refsplit_any 32 l (by omega) w)
 have hlen:=splitC_length_le 32 l
 have HW:=zh (show wordsL l=(splitC 32 l).filter (fun x=>!x.isEmpty) from rfl)
 unfold strV at *
 generalize (⟨l.toArray⟩:ByteArray)=Z at *
 go_enter func77,ntmps77
 go_wp2_with fail
 with_reducible refine (HSP.out _).mono ?_
 rintro e w1 ⟨v,rfl,hown,hm1⟩
 have HS:=zh (Sl.of_own (X:=No) hown (fun _ _ f=>f))
 obtain ⟨sa,sc,rfl⟩:=HS.out.len
 have HM1:=zh hm1
 have hb1:=hm1.size
 clear hown hm1 HSP
 generalize splitC 32 l=ps at *
 go_wp2_with fail
 go_loopw [3,5] (fun o q wr=>∃ (k:Nat),k<=ps.length/\q=.int .i64 k/\wr.ownsRow w1.heap.size 9 1 o ((ps.take k).filter (fun x=>!x.isEmpty)).length (strs ((ps.take k).filter (fun x=>!x.isEmpty)))/\Mod No w1 wr) (fun _ q _=>ps.length - (intOf q).toNat)
 case atStart=>exact ⟨0,by omega,rfl,⟨rfl,.inl ⟨rfl,rfl⟩⟩,Mod.refl _ _⟩
 case round =>
  obtain ⟨k,hk,rfl,hown,hmod⟩:=hrel
  have hk0:(0:Int)<=(k:Int):=Int.natCast_nonneg _
  have HO:=zh hown
  have HM:=zh hmod
  have hbase:=hmod.size
  clear hown hmod
  obtain ⟨oa,oc,rfl⟩:=own_len HO.out
  by_cases hlt:k < ps.length
  ·have hk1:(k:Int) < (ps.length:Int):=by omega
   obtain ⟨b,o,c,hvs,_⟩:=HS.out.shape (by omega)
   cases hvs
   have hcell:=HM.out.cell (HS.out.cellN (i:=k) (by rw [strs_length];exact hlt)) (fun f=>f)
   rw [show (strs ps)[k]'(by rw [strs_length];exact hlt)=.string ⟨ps[k].toArray⟩ from by simp [strs,strV]] at hcell
   have HF:=zh (filter_take (fun x:List UInt8=>!x.isEmpty) ps hlt)
   have hfl:=List.length_filter_le (fun x:List UInt8=>!x.isEmpty) (ps.take k)
   rw [List.length_take] at hfl
   have hT:=str_list ps[k]
   have HNE:=zh (str_nil ps[k])
   by_cases he:ps[k]=[]
   ·have HT2:=zh (show (ps.take (k+1)).filter (fun x=>!x.isEmpty)=(ps.take k).filter (fun x=>!x.isEmpty) by rw [HF.out,he];simp)
    rw [he] at hcell
    clear HF HNE hT
    go_wp2_with fail
    refine ⟨⟨k+1,by omega,rfl,?_,HM.out⟩,by show ps.length - ((k:Int)+1).toNat < ps.length - (k:Int).toNat;omega⟩
    rw [HT2.out]
    exact HO.out
   ·have HT2:=zh (show (ps.take (k+1)).filter (fun x=>!x.isEmpty)=(ps.take k).filter (fun x=>!x.isEmpty)++[ps[k]] by
     rw [HF.out,if_pos (by cases hx:ps[k] with | nil=>exact absurd hx he | cons a b=>rfl)])
    clear HF
    generalize ps[k]=pc at *
    generalize (ps.take k).filter (fun x=>!x.isEmpty)=outs at *
    have hie:pc.isEmpty=false:=by
     cases pc with
     | nil=>exact absurd rfl he
     | cons a b=>rfl
    have HMA:=zh ((Mod.refl No wr).alloc (.cells #[.string ⟨pc.toArray⟩] 9))
    have HOA:=zh (own_keepM HO.out HMA.out (fun _ _ f=>f))
    have HSA:=zh (show Sl (wr.alloc (.cells #[.string ⟨pc.toArray⟩] 9)) No 9 (.slice (some ⟨wr.heap.size,0,none⟩) 1 1) 1 [.string ⟨pc.toArray⟩] from .inr ⟨wr.heap.size,0,1,_,(0,0),rfl,Nat.le_refl _,by decide,fun f=>f,heap_alloc_new wr _,by simp,fun i hi=>by
     have h0:i=0:=by simp at hi;exact hi
     subst h0;rfl⟩)
    have hbA:w1.heap.size<=(wr.alloc (.cells #[.string ⟨pc.toArray⟩] 9)).heap.size:=Nat.le_trans hbase HMA.out.size
    go_wp2_with (at_builtin;refine app_sl _ rfl _ _ 38 rfl w1.heap.size 9 i0 (.string ⟨#[]⟩) 1 16 underlying38 hi0 hz0 hz1 hz2 rfl (by decide) _ _ _ rfl HOA.out No 9 _ 1 [.string ⟨pc.toArray⟩] rfl HSA.out rfl (by simp [Value.oneCell']) ?_ ?_ hbA ?_)
    ·unfold maxLen;omega
    ·omega
    intro v' w2 hown2 hg2 _
    have HO2:=zh hown2
    have HM2:=zh ((HM.out.trans HMA.out).then (Mod.of_grown (S:=fun q=>w1.heap.size<=q) hg2 (fun q e _=>(HOA.out.lt _ e).1)) (fun i hi hq=>absurd hi (by omega)))
    clear hown2 hg2
    obtain ⟨va,vc,rfl⟩:=own_len HO2.out
    go_wp2_with fail
    refine ⟨⟨k+1,by omega,rfl,?_,HM2.out⟩,by show ps.length - ((k:Int)+1).toNat < ps.length - (k:Int).toNat;omega⟩
    rw [HT2.out,List.length_append,strs_append]
    exact HO2.out
  ·have hE:ps.take k=ps:=List.take_of_length_le (by omega)
   rw [hE] at HO ⊢
   clear hE
   generalize hps:ps.filter (fun x=>!x.isEmpty)=outs at *
   have HPS:=zh hps
   clear hps
   go_wp2_with fail
   refine fin hR ⟨_,rfl,?_,HM1.out.trans HM.out⟩
   rw [HW.out]
   exact own_less HO.out hb1
end Go.Proofs.YtgiigemfbebcgaaGreatDoor
