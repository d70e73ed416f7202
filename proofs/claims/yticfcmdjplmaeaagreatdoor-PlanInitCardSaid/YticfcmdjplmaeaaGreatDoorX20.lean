/-
  Layers 0 to 14: helps of the laws of indexes. No statement is proved here; no condition.
-/
import Derived.Test.YticfcmdjplmaeaaGreatDoorX10
import Derived.Test.YticfcmdjplmaeaaGreatDoorX02
import Derived.Test.YticfcmdjplmaeaaGreatDoorX01
import Derived.Test.YticfcmdjplmaeaaGreatDoorX00
import Derived.Deep.WholeRow
import Derived.Defers
set_option maxRecDepth 100000
set_option maxHeartbeats 64000000
namespace Go.Proofs.YticfcmdjplmaeaaGreatDoor
open _root_.Go.Proofs.Tryz
open Go.RowKit
noncomputable def blkW8:Code:=(blockAt 8 bodyW).getD .skip
def LpRK (w0:World) (q kb:Nat) (h:List Int) (v2:Value) (k:Nat) (a:Act) (w:World):Prop :=
 ∃ i,i+k=32/\Mod (fun p=>p=kb) w0 w/\w.heap[kb]? = some (.cells (bv (keyAt h i)).toArray 104 (0,0))/\Fr 259 [(2,v2),(3,.pointer (some ⟨q,0,none⟩)),(23,.pointer (some ⟨kb,0,none⟩)),(24,.int .i64 (i:Int))] a
theorem rkey_any (q kb:Nat) (h:List Int) (v2:Value) (f:Act) (w:World) (hh:h.length=8) (hkq:kb ≠ q)
  (hq:w.heap[q]? = some (.cells (c8 h) 231 (0,0))) (hk:w.heap[kb]? = some (.cells (bv (keyAt h 0)).toArray 104 (0,0)))
  (hF:Fr 259 [(2,v2),(3,.pointer (some ⟨q,0,none⟩)),(23,.pointer (some ⟨kb,0,none⟩)),(24,.int .i64 0)] f) :
  Code.wp prog blkW8 (Exit.then (fun a' w'=>Fr 259 [(2,v2),(23,.pointer (some ⟨kb,0,none⟩))] a'/\w'.heap[kb]? = some (.cells (bv (keyF h)).toArray 104 (0,0))/\Mod (fun p=>p=kb) w w') Nope) f w:=by
 refine wp_part fun J K' hJ hK=>?_
 have H0:=zh (show LpRK w q kb h v2 32 f w from ⟨0,rfl,Mod.refl _ w,hk,hF⟩);have HJ:=zh hJ;have HQ:=zh hq;obtain ⟨w0,hw0⟩:∃ w0,w0=w:=⟨_,rfl⟩
 rw [<- hw0] at HJ H0 HQ;clear hF hJ hq hk;conv=>arg 2;whnf
 go_step
 refine wp_loop_ghost_k (LpRK w0 q kb h v2) 32 (by rw [hw0] at H0 ⊢;exact H0.out) ?_;clear H0 hw0 f w;intro k f w hI J2 K2 hJ2 hK2;have HJ2:=zh hJ2;obtain ⟨i,hik,hmod,hk,hF⟩:=hI;have HK:=zh hk;have HM:=zh hmod;have HQW:=zh (hmod.keep HQ.out (fun e=>hkq e.symm));clear hJ2 hk hmod;obtain ⟨ts,ds⟩:=f;obtain ⟨hsz,hds,hs2,hs3,hs23,hs24,-⟩:=hF;dsimp only at hsz hds hs2 hs3 hs23 hs24;subst hds;obtain ⟨c,rfl,hc⟩:=lit259 ts hsz;rw [hc] at hs2;rw [hc] at hs3;rw [hc] at hs23;rw [hc] at hs24;simp only [hs2,hs3,hs23,hs24];clear hc hsz hs2 hs3 hs23 hs24;have hi0:(0:Int)<=(i:Int):=Int.natCast_nonneg _;by_cases hi:i < 32
 ·have hi32:(i:Int) < 32:=by omega
  obtain ⟨d,hd⟩:∃ d,d=i / 4:=⟨_,rfl⟩
  obtain ⟨r,hr⟩:∃ r,r=i % 4:=⟨_,rfl⟩
  obtain ⟨j,hj⟩:∃ j,j=8*r:=⟨_,rfl⟩
  obtain ⟨s,hs⟩:∃ s,s=24 - j:=⟨_,rfl⟩
  obtain ⟨x,hx⟩:∃ x,h.getD d 0=x:=⟨_,rfl⟩
  have hxa:(c8 h)[d]? = some (.int .u32 x):=by
   unfold c8;rw [List.getElem?_toArray,List.getElem?_map,List.getElem?_eq_getElem (by omega),<- hx,List.getD_eq_getElem?_getD,List.getElem?_eq_getElem (by omega)];rfl
  have c0:=cell_ofA HK.out (keyAt_get h hi);have f0:=frozen_of i HK.out;have c1:=cell_ofA HQW.out hxa;have q1:(i:Int) / 4=(d:Int):=by omega
  have q2:(i:Int) % 4=(r:Int):=by omega
  have q1':Int.tdiv (i:Int) 4=(d:Int):=by rw [Int.tdiv_eq_ediv_of_nonneg hi0];exact q1
  have q2':Int.tmod (i:Int) 4=(r:Int):=by rw [Int.tmod_eq_emod_of_nonneg hi0];exact q2
  have q3:(8:Int)*(r:Int)=(j:Int):=by omega
  have q4:(24:Int) - (j:Int)=(s:Int):=by omega
  have b1:(d:Int) < 8:=by omega
  have b2:(0:Int)<=(d:Int):=Int.natCast_nonneg _;have b3:(s:Int)<=24:=by omega
  have b4:(0:Int)<=(s:Int):=Int.natCast_nonneg _;have b5:(0:Int)<=(r:Int):=Int.natCast_nonneg _;have b6:(r:Int)<=3:=by omega
  have b7:(0:Int)<=(j:Int):=Int.natCast_nonneg _;have b8:(j:Int)<=24:=by omega
  have HB:=zh (keyB_val h i s x (by rw [<- hd];exact hx) (by rw [<- hr];omega));have HST:=zh (keyAt_set h hi);clear hx hxa hd hr hj hs;go_wp2_with fail
  rw [HB.out];exact Handed.intro (k - 1) (by omega) (HJ2.out _ _ _ ⟨i+1,by omega,HM.out.setCell (fun _=>rfl) _,by rw [heap_setCell HK.out,HST.out],rfl,rfl,rfl,rfl,rfl,by go_num,trivial⟩)
 ·have hi8:i=32:=by omega
  subst hi8;have HKF:=zh (show w.heap[kb]? = some (.cells (bv (keyF h)).toArray 104 (0,0)) by rw [<- keyAt_full];exact HK.out);go_wp2_with fail
  exact Met.intro (HJ.out _ _ ⟨⟨rfl,rfl,rfl,rfl,trivial⟩,HKF.out,HM.out⟩)
theorem padT_bound {l:List UInt8} (hl:l.length<=70368744177664):l.length / 64+lastN l<=4398046511104:=by
 have:=lastN_le2 l;omega
theorem refsum_any (l:List UInt8) (V:Value) (w:World) (hl:l.length<=70368744177664) (hV:Sl w No 5 V l.length (bv l)) :
  Calls prog 81 #[V] w fun e w'=>e=.returned (.agg (bv (sumF l)).toArray)/\Mod No w w':=by
 refine calls_hide fun R hR=>?_
 have HV:=zh hV;clear hV;go_enter func81,ntmps81
 obtain ⟨b2,hb2⟩:∃ b,b=w.heap.size:=⟨_,rfl⟩
 obtain ⟨sb,hsb⟩:∃ b,b=b2+1:=⟨_,rfl⟩
 go_upto_region 2 with fail
 rename_i K2 hK2;have HK2:=zh hK2;clear hK2;rw [<- hb2,<- hsb];generalize hw0:World.alloc (World.alloc w _) _=w0;have hmA:Mod No w (w.alloc (.cells (bv (keyAt [] 0)).toArray 104)):=(Mod.refl No w).alloc _;have HM0:=zh (show Mod No w w0 by rw [<- hw0];exact ((Mod.refl No w).alloc _).alloc _);have HB0:=zh (show w0.heap[b2]? = some (.cells (bv (keyAt [] 0)).toArray 104 (0,0)) by
  rw [<- hw0,hb2];exact ((Mod.refl No _).alloc _).keep (heap_alloc_new w _) (fun f=>f))
 have HS0:=zh (show w0.heap[sb]? = some (.cells (c8 h0) 231 (0,0)) by
  rw [<- hw0,hsb,hb2];have h1:=heap_alloc_new (w.alloc (.cells (bv (keyAt [] 0)).toArray 104)) (.cells (c8 h0) 231);rw [show (w.alloc (.cells (bv (keyAt [] 0)).toArray 104)).heap.size=w.heap.size+1 by simp] at h1;exact h1)
 have HN:=zh (And.intro hb2 hsb);clear hw0 hb2 hsb hmA;go_wp2_with fail
 refine (table_any _).mono ?_;rintro e w1 ⟨rfl,hm1⟩;have HM1:=zh (HM0.out.trans hm1);have HB1:=zh (hm1.keep HB0.out (fun f=>f));have HS1:=zh (hm1.keep HS0.out (fun f=>f));clear hm1 HM0 HB0 HS0;go_wp2_with fail
 rw [run_storeCells_new w1 232 _ (c8 k0) (by kernel_rfl) (by kernel_rfl) (by kernel_rfl)];obtain ⟨kb,hkb⟩:∃ kb,kb=w1.heap.size:=⟨_,rfl⟩
 rw [<- hkb];obtain ⟨w2,hw2⟩:∃ y,y=w1.alloc (.cells (c8 k0) 232):=⟨_,rfl⟩
 rw [<- hw2];have hm2:Mod No w1 w2:=by rw [hw2];exact (Mod.refl No w1).alloc _
 have HK3:=zh (show w2.heap[kb]? = some (.cells (c8 k0) 232 (0,0)) by rw [hw2,hkb];exact heap_alloc_new w1 _);have HM2:=zh (HM1.out.trans hm2);have HB2:=zh (hm2.keep HB1.out (fun f=>f));have HS2:=zh (hm2.keep HS1.out (fun f=>f));have HL:=zh (show sb < w1.heap.size from lt_of_heap HS1.out);have HKB:=zh hkb;clear hw2 hm2 HM1 HB1 HS1 hkb;have hK2:=HK2.out;clear HK2;go_wp2_with fail
 refine (pad_any l V _ hl (HV.out.kn HM2.out)).mono ?_;rintro e w3 ⟨v,rfl,hown,hm3⟩;obtain ⟨n,hn⟩:∃ n,n=l.length / 64+lastN l:=⟨_,rfl⟩
 have hpl:=padT_length l;rw [<- hn] at hpl;have hn1:1<=n:=by rw [hn];have:=lastN_le l;omega
 have hn2:n<=4398046511104:=by rw [hn];exact padT_bound hl
 obtain ⟨bb,bc,rfl,hbb⟩:=own_shape hown (by omega);have hsl:Sl w3 No 5 (.slice (some ⟨bb,0,none⟩) (padT l).length bc) (padT l).length (bv (padT l)):=Sl.of_own hown (fun _ _ f=>f);have HBY:=zh (show ∀ k,k < 64*n->w3.cell? ⟨bb,0+k,none⟩=some (.int .u8 (bf (padT l) k)) from fun k hk=>hsl.bytes (by omega));have HM3:=zh (HM2.out.trans hm3);have HB3:=zh (hm3.keep HB2.out (fun f=>f));have HS3:=zh (hm3.keep HS2.out (fun f=>f));have HK4:=zh (hm3.keep HK3.out (fun f=>f));have HX:=zh (show bb ≠ sb/\kb ≠ sb/\w.heap.size<=sb by
  have h1:=lt_of_heap HS2.out;have h2:=HL.out;have h3:=HKB.out;have h4:=HN.out
  exact ⟨by omega,by omega,by omega⟩)
 have HNN:=zh (And.intro hn hn2);rw [hpl];clear hown hsl hm3 HM2 HB2 HS2 HK3 hbb hpl hn hn1 hn2 HV HL HKB;go_upto_block 0 with fail
 rename_i K5 hK5;refine wp_only (rblocks_any (bf (padT l)) sb kb bb 0 n bc (.pointer (some ⟨b2,0,none⟩)) _ w3 HNN.out.2 HX.out.1 HX.out.2.1 HS3.out HK4.out HBY.out ⟨rfl,rfl,rfl,rfl,rfl,rfl,rfl,trivial⟩) ?_;rintro a4 w4 ⟨hF,hs4,hm4⟩;have HSUM:=zh (show keyF (runF k0 n (bf (padT l)) h0)=sumF l by rw [HNN.out.1,<- sumF_padT,padT_length];congr 2;omega);have HF8:=zh (show (runF k0 n (bf (padT l)) h0).length=8 from runF_length _ _ _ _ rfl);have HS4:=zh hs4;have HB4:=zh (hm4.keep HB3.out (fun e=>by have:=HN.out;omega));have HM4:=zh (HM3.out.then hm4 (S:=No) (fun i hi e=>absurd hi (by have:=HX.out;omega)));refine hK5 _ _ ?_;clear hs4 hm4 hK5 K5 HS3 HB3 HM3 HK4 HBY;obtain ⟨ts,ds⟩:=a4;obtain ⟨hsz,hds,hs2,hs3,-⟩:=hF;dsimp only at hsz hds hs2 hs3;subst hds;obtain ⟨c,rfl,hc⟩:=lit259 ts hsz;rw [hc] at hs2;rw [hc] at hs3;simp only [hs2,hs3];clear hc hsz hs2 hs3;obtain ⟨hf,hhf⟩:∃ hf,hf=runF k0 n (bf (padT l)) h0:=⟨_,rfl⟩
 rw [<- hhf] at HSUM HF8 HS4;clear hhf;go_upto_block 8 with fail
 rename_i K6 hK6;obtain ⟨ob,hob⟩:∃ ob,ob=w4.heap.size:=⟨_,rfl⟩
 have hlq:=lt_of_heap HS4.out;have hlb:=lt_of_heap HB4.out;have hkq:ob ≠ sb:=by omega
 have hkb2:ob ≠ b2:=by omega
 rw [<- hob];generalize hw5:World.alloc w4 _=w5;have hk5:w5.heap[ob]? = some (.cells (bv (keyAt hf 0)).toArray 104 (0,0)):=by rw [<- hw5,hob];exact heap_alloc_new w4 _
 have hm5:Mod No w4 w5:=by rw [<- hw5];exact (Mod.refl No w4).alloc _
 refine wp_only (rkey_any sb ob hf (.pointer (some ⟨b2,0,none⟩)) _ w5 HF8.out hkq (hm5.keep HS4.out (fun f=>f)) hk5 ⟨rfl,rfl,rfl,rfl,rfl,rfl,trivial⟩) ?_;rintro a6 w6 ⟨hF,hk6,hm6⟩;have hb6:=hm6.keep (hm5.keep HB4.out (fun f=>f)) (fun e=>hkb2 e.symm);have hmm:=HM4.out.then (hm5.then hm6 (S:=No) (fun i hi e=>absurd hi (by omega))) (fun i hi f=>f);refine hK6 _ _ ?_;clear hK6 K6 c;obtain ⟨ts,ds⟩:=a6;obtain ⟨hsz,hds,hs2,hs23,-⟩:=hF;dsimp only at hsz hds hs2 hs23;subst hds;obtain ⟨c,rfl,hc⟩:=lit259 ts hsz;rw [hc] at hs2;rw [hc] at hs23;simp only [hs2,hs23];clear hc hsz hs2 hs23;go_upto_region 31 with fail
 rename_i K7 hK7;have hsz:(prog.info? 104).map (·.size)=some (bv (keyF hf)).toArray.size:=by
  rw [show (bv (keyF hf)).toArray.size=32 by simp [keyF]];kernel_rfl
 refine wp_region_lit ?_;refine wpList_load_row rfl 104 _ rfl ob rfl 104 (bv (keyF hf)).toArray (0,0) _ hk6 underlying104 (by kernel_rfl) hsz ?_;refine wpList_store_row rfl 104 _ _ rfl b2 (bv (keyF hf)).toArray rfl rfl 104 _ hb6 hsz (by simp [keyAt,keyF]) (by simp [bv,Value.oneCell']) ?_;refine hK7 _ _ ?_;refine wp_ret ?_;exact bodyPost_ret (results_cell_row rfl _ _ b2 104 (bv (keyF hf)).toArray (0,0) _ rfl (setRow_heap _ _ _ _ _ _ hb6) underlying104 (by kernel_rfl) hsz) rfl (fin hR ⟨by rw [HSUM.out],hmm.then (T:=fun p=>p=b2) ⟨rfl,rfl,rfl,by simp [World.setRow],fun k hk hn=>setRow_other _ _ k _ hn⟩ (fun i hi e=>absurd hi (by have:=HN.out;omega))⟩)
end Go.Proofs.YticfcmdjplmaeaaGreatDoor
namespace Go.Proofs.YticfcmdjplmaeaaGreatDoor
open _root_.Go.Proofs.Tryz
end Go.Proofs.YticfcmdjplmaeaaGreatDoor
namespace Go.Proofs.YticfcmdjplmaeaaGreatDoor
open _root_.Go.Proofs.Tryz
open Go.RowKit
section
variable {P:Program} {md:Region.Mode} {ops:Array Oper} {Q:Exit->Act->World->Prop} {S:World->Prop}
theorem wpAnyT_three {z:Nat} (i j k:Nat) {oi oj ok:Oper} {fuel:Nat} {listed:Array Bool} {a:Act} {w:World} (hi:ops[i]? = some oi) (hj:ops[j]? = some oj) (hk:ops[k]? = some ok) (hr:Region.ready md ops listed=[i,j,k]) (hgi:oi.guard=none) (hgj:oj.guard=none) (hgk:ok.guard=none)
  (h1:∀ K:Act->World->Prop,Hid (∀ a' w',(i ≠ z->S w')->wpAnyT P md ops Q S z fuel (listed.setIfInBounds i true) a' w'->K a' w')->oi.wp P a w K Q)
  (h2:∀ K:Act->World->Prop,Hid (∀ a' w',(j ≠ z->S w')->wpAnyT P md ops Q S z fuel (listed.setIfInBounds j true) a' w'->K a' w')->oj.wp P a w K Q)
  (h3:∀ K:Act->World->Prop,Hid (∀ a' w',(k ≠ z->S w')->wpAnyT P md ops Q S z fuel (listed.setIfInBounds k true) a' w'->K a' w')->ok.wp P a w K Q):wpAnyT P md ops Q S z (fuel+1) listed a w:=by
 refine ⟨fun h0=>absurd (hr ▸ h0) (by simp),fun q hq=>?_⟩
 rw [hr] at hq;have hq':q=i\/q=j\/q=k:=by simpa using hq
 rcases hq' with rfl | rfl | rfl
 ·unfold wpOp;simp only [hi,Region.wanted,hgi,if_true];exact .inl (h1 _ (zh fun a' w' hs hw=>⟨hs,hw⟩))
 ·unfold wpOp;simp only [hj,Region.wanted,hgj,if_true];exact .inl (h2 _ (zh fun a' w' hs hw=>⟨hs,hw⟩))
 ·unfold wpOp;simp only [hk,Region.wanted,hgk,if_true];exact .inl (h3 _ (zh fun a' w' hs hw=>⟨hs,hw⟩))
end
theorem lstop_idle (p q r:Nat) (w:World) :
  CallsD prog 109 #[.pointer (some ⟨p,0,none⟩),.pointer (some ⟨q,0,none⟩),.pointer (some ⟨r,0,none⟩)] .returning w fun e u' w'=>e=.returned (.tuple #[])/\u'=.returning/\w'=w:=by
 refine callsD_of_wpS func109 rfl fun c₀ cs hu=>?_
 apply wpS_seq
 apply wpS_region
 simp [wpOpsS,go_sem,recoverD,hu,ntmps109,Exit.thenS]
 refine wpS_of_wp ?_;refine wp_mono (Q:=Exit.then (fun a' w'=>a'.defers=[]/\w'=w) Nope) ?_ ?_
 ·refine wp_part fun J K' hJ hK=>?_
  go_wp2_with fail
  exact Met.intro (hJ _ _ ⟨rfl,rfl⟩)
 ·rintro e a' w' hq;cases e with
  | normal =>
   obtain ⟨hd,rfl⟩:=hq;cases c₀
   simp_all [bodyPostS,results,results109]
  | exit id=>exact hq.elim
  | goto l=>exact hq.elim
  | ret=>exact hq.elim
  | panic ch=>exact hq.elim
  | outgrown=>exact hq.elim
theorem lmust_yes (n:Int) (w:World):Calls prog 110 #[.bool true,.int .i64 n] w fun e w'=>e=.returned (.tuple #[])/\w'=w:=by
 refine calls_hide fun R hR=>?_
 go_enter func110,ntmps110
 go_wp2_with fail
 go_end0
 exact fin hR ⟨rfl,rfl⟩
theorem Sl.lenle {X:Nat->Prop} {w:World} {e:TypeId} {v:Value} {n:Nat} {xs:List Value} (h:Sl w X e v n xs):n<=9223372036854775807:=by
 rcases Nat.eq_zero_or_pos n with h0 | h0
 ·omega
 ·obtain ⟨_,_,c,_,h1,h2,_⟩:=h.shape h0;unfold maxLen at h2;omega
theorem strings_eq (l:List (List UInt8)) (va vb:Value) (w:World) (ha:Sl w No 9 va l.length (strs l)) (hb:Sl w No 9 vb l.length (strs l)) :
  Calls prog 28 #[va,vb] w fun e w'=>e=.returned (.bool true)/\Mod No w w':=by
 refine calls_hide fun R hR=>?_
 have hl:=ha.lenle;obtain ⟨a1,a2,rfl⟩:=ha.len;obtain ⟨b1,b2,rfl⟩:=hb.len;have HA:=zh ha;have HB:=zh hb;clear ha hb;go_enter func28,ntmps28
 go_wp2_with fail
 go_loopw [5] (fun q wr=>∃ k:Nat,k<=l.length/\q=.int .i64 (k:Int)/\Mod No w wr) (fun q _=>l.length - (intOf q).toNat)
 case atStart=>exact ⟨0,by omega,rfl,Mod.refl _ _⟩
 case round =>
  obtain ⟨k,hk,rfl,hm⟩:=hrel;have HM:=zh hm;have hk0:(0:Int)<=(k:Int):=Int.natCast_nonneg _;clear hm;by_cases hlt:k < l.length
  ·have hk1:(k:Int) < (l.length:Int):=by omega
   obtain ⟨p,o,c,hvs,_⟩:=HA.out.shape (by omega);cases hvs
   obtain ⟨p2,o2,c2,hvs,_⟩:=HB.out.shape (by omega);cases hvs
   have h1:=HM.out.cell (HA.out.cellN (i:=k) (by rw [strs_length];exact hlt)) (fun f=>f);have h2:=HM.out.cell (HB.out.cellN (i:=k) (by rw [strs_length];exact hlt)) (fun f=>f);rw [show (strs l)[k]'(by rw [strs_length];exact hlt)=.string ⟨l[k].toArray⟩ from by simp [strs,strV]] at h1 h2;generalize (⟨l[k].toArray⟩:ByteArray)=Z at *;go_upto_region 6 with fail
   go_quiet (fail)
   generalize hw2:World.drewN wr _=w2;have HM2:=zh (show Mod No w w2 by rw [<- hw2];exact HM.out.drewN _);clear hw2;go_wp2_with fail
   exact ⟨⟨k+1,by omega,rfl,HM2.out⟩,by show l.length - ((k:Int)+1).toNat < l.length - (k:Int).toNat;omega⟩
  ·have hk1:¬ ((k:Int) < (l.length:Int)):=by omega
   go_wp2_with fail
   exact fin hR ⟨rfl,HM.out⟩
theorem version_eq (v:Ver) (pa pb:Value) (w:World) (ha:Sl w No 9 pa v.pre.length (strs v.pre)) (hb:Sl w No 9 pb v.pre.length (strs v.pre)) :
  Calls prog 14 #[verV v pa,verV v pb] w fun e w'=>e=.returned (.bool true)/\Mod No w w':=by
 refine calls_hide fun R hR=>?_
 obtain ⟨a1,a2,rfl⟩:=ha.len;obtain ⟨b1,b2,rfl⟩:=hb.len;obtain ⟨xa,xb,xc,xp⟩:=v;have HS:=zh (fun W (hm:Mod No w W)=>strings_eq xp (.slice a1 xp.length a2) (.slice b1 xp.length b2) W (ha.kn hm) (hb.kn hm));clear ha hb;unfold verV at *;dsimp only at *;go_enter func14,ntmps14
 go_wp2_with fail
 with_reducible refine (HS.out _ (((Mod.refl No w).alloc _).alloc _)).mono ?_
 rintro e w2 ⟨rfl,hm2⟩;have HM:=zh ((((Mod.refl No w).alloc (.cells #[.int .i64 xa,.int .i64 xb,.int .i64 xc,.slice a1 xp.length a2] 40)).alloc (.cells #[.int .i64 xa,.int .i64 xb,.int .i64 xc,.slice b1 xp.length b2] 40)).trans hm2);clear hm2 HS;go_wp2_with fail
 exact fin hR ⟨rfl,HM.out⟩
end Go.Proofs.YticfcmdjplmaeaaGreatDoor
