/-
  Layers 0 to 14: helps of the laws of indexes. No statement is proved here; no condition.
-/
import Derived.Test.YtgiigemfbebcgaaGreatDoorT05
import Derived.Test.YtgiigemfbebcgaaGreatDoorT04
import Derived.Deep.WholeRow
import Derived.Lib.ConvBytes
namespace Go.Proofs.YtgiigemfbebcgaaGreatDoor
open _root_.Go.Proofs.Tryz
open Go.RowKit
noncomputable def blkW8:Code:=(blockAt 8 bodyW).getD .skip
def LpRK (w0:World) (q kb:Nat) (h:List Int) (v2:Value) (k:Nat) (a:Act) (w:World):Prop :=
 ∃ i,i+k=32/\Mod (fun p=>p=kb) w0 w/\w.heap[kb]? = some (.cells (bv (keyAt h i)).toArray 42 (0,0))/\Fr 259 [(2,v2),(3,.pointer (some ⟨q,0,none⟩)),(23,.pointer (some ⟨kb,0,none⟩)),(24,.int .i64 (i:Int))] a
set_option maxRecDepth 100000 in
set_option maxHeartbeats 4000000 in
theorem rkey_any (q kb:Nat) (h:List Int) (v2:Value) (f:Act) (w:World) (hh:h.length=8) (hkq:kb ≠ q)
  (hq:w.heap[q]? = some (.cells (c8 h) 147 (0,0))) (hk:w.heap[kb]? = some (.cells (bv (keyAt h 0)).toArray 42 (0,0)))
  (hF:Fr 259 [(2,v2),(3,.pointer (some ⟨q,0,none⟩)),(23,.pointer (some ⟨kb,0,none⟩)),(24,.int .i64 0)] f) :
  Code.wp prog blkW8 (Exit.then (fun a' w'=>Fr 259 [(2,v2),(23,.pointer (some ⟨kb,0,none⟩))] a'/\w'.heap[kb]? = some (.cells (bv (keyF h)).toArray 42 (0,0))/\Mod (fun p=>p=kb) w w') Nope) f w:=by
 refine wp_part fun J K' hJ hK=>?_
 have H0:=zh (show LpRK w q kb h v2 32 f w from ⟨0,rfl,Mod.refl _ w,hk,hF⟩)
 have HJ:=zh hJ
 have HQ:=zh hq
 obtain ⟨w0,hw0⟩:∃ w0,w0=w:=⟨_,rfl⟩
 rw [<- hw0] at HJ H0 HQ
 clear hF hJ hq hk
 conv=>arg 2;whnf
 go_step
 refine wp_loop_ghost_k (LpRK w0 q kb h v2) 32 (by rw [hw0] at H0 ⊢;exact H0.out) ?_
 clear H0 hw0 f w
 intro k f w hI J2 K2 hJ2 hK2
 have HJ2:=zh hJ2
 obtain ⟨i,hik,hmod,hk,hF⟩:=hI
 have HK:=zh hk
 have HM:=zh hmod
 have HQW:=zh (hmod.keep HQ.out (fun e=>hkq e.symm))
 clear hJ2 hk hmod
 obtain ⟨ts,ds⟩:=f
 obtain ⟨hsz,hds,hs2,hs3,hs23,hs24,-⟩:=hF
 dsimp only at hsz hds hs2 hs3 hs23 hs24
 subst hds
 obtain ⟨c,rfl,hc⟩:=lit259 ts hsz
 rw [hc] at hs2
 rw [hc] at hs3
 rw [hc] at hs23
 rw [hc] at hs24
 simp only [hs2,hs3,hs23,hs24]
 clear hc hsz hs2 hs3 hs23 hs24
 have hi0:(0:Int)<=(i:Int):=Int.natCast_nonneg _
 by_cases hi:i < 32
 ·have hi32:(i:Int) < 32:=by omega
  obtain ⟨d,hd⟩:∃ d,d=i / 4:=⟨_,rfl⟩
  obtain ⟨r,hr⟩:∃ r,r=i % 4:=⟨_,rfl⟩
  obtain ⟨j,hj⟩:∃ j,j=8*r:=⟨_,rfl⟩
  obtain ⟨s,hs⟩:∃ s,s=24 - j:=⟨_,rfl⟩
  obtain ⟨x,hx⟩:∃ x,h.getD d 0=x:=⟨_,rfl⟩
  have hxa:(c8 h)[d]? = some (.int .u32 x):=by
   unfold c8
   rw [List.getElem?_toArray,List.getElem?_map,List.getElem?_eq_getElem (by omega),<- hx,List.getD_eq_getElem?_getD,List.getElem?_eq_getElem (by omega)];rfl
  have c0:=cell_ofA HK.out (keyAt_get h hi)
  have f0:=frozen_of i HK.out
  have c1:=cell_ofA HQW.out hxa
  have q1:(i:Int) / 4=(d:Int):=by omega
  have q2:(i:Int) % 4=(r:Int):=by omega
  have q1':Int.tdiv (i:Int) 4=(d:Int):=by rw [Int.tdiv_eq_ediv_of_nonneg hi0];exact q1
  have q2':Int.tmod (i:Int) 4=(r:Int):=by rw [Int.tmod_eq_emod_of_nonneg hi0];exact q2
  have q3:(8:Int)*(r:Int)=(j:Int):=by omega
  have q4:(24:Int) - (j:Int)=(s:Int):=by omega
  have b1:(d:Int) < 8:=by omega
  have b2:(0:Int)<=(d:Int):=Int.natCast_nonneg _
  have b3:(s:Int)<=24:=by omega
  have b4:(0:Int)<=(s:Int):=Int.natCast_nonneg _
  have b5:(0:Int)<=(r:Int):=Int.natCast_nonneg _
  have b6:(r:Int)<=3:=by omega
  have b7:(0:Int)<=(j:Int):=Int.natCast_nonneg _
  have b8:(j:Int)<=24:=by omega
  have HB:=zh (keyB_val h i s x (by rw [<- hd];exact hx) (by rw [<- hr];omega))
  have HST:=zh (keyAt_set h hi)
  clear hx hxa hd hr hj hs
  go_wp2_with fail
  rw [HB.out]
  exact Handed.intro (k - 1) (by omega) (HJ2.out _ _ _ ⟨i+1,by omega,HM.out.setCell (fun _=>rfl) _,by rw [heap_setCell HK.out,HST.out],rfl,rfl,rfl,rfl,rfl,by go_num,trivial⟩)
 ·have hi8:i=32:=by omega
  subst hi8
  have HKF:=zh (show w.heap[kb]? = some (.cells (bv (keyF h)).toArray 42 (0,0)) by rw [<- keyAt_full];exact HK.out)
  go_wp2_with fail
  exact Met.intro (HJ.out _ _ ⟨⟨rfl,rfl,rfl,rfl,trivial⟩,HKF.out,HM.out⟩)
theorem padT_bound {l:List UInt8} (hl:l.length<=70368744177664):l.length / 64+lastN l<=4398046511104:=by
 have:=lastN_le2 l
 omega
set_option maxRecDepth 100000 in
set_option maxHeartbeats 8000000 in
theorem refsum_any (l:List UInt8) (V:Value) (w:World) (hl:l.length<=70368744177664) (hV:Sl w No 5 V l.length (bv l)) :
  Calls prog 76 #[V] w fun e w'=>e=.returned (.agg (bv (sumF l)).toArray)/\Mod No w w':=by
 refine calls_hide fun R hR=>?_
 have HV:=zh hV
 clear hV
 go_enter func76,ntmps76
 obtain ⟨b2,hb2⟩:∃ b,b=w.heap.size:=⟨_,rfl⟩
 obtain ⟨sb,hsb⟩:∃ b,b=b2+1:=⟨_,rfl⟩
 go_upto_region 2 with fail
 rename_i K2 hK2
 have HK2:=zh hK2
 clear hK2
 rw [<- hb2,<- hsb]
 generalize hw0:World.alloc (World.alloc w _) _=w0
 have hmA:Mod No w (w.alloc (.cells (bv (keyAt [] 0)).toArray 42)):=(Mod.refl No w).alloc _
 have HM0:=zh (show Mod No w w0 by rw [<- hw0];exact ((Mod.refl No w).alloc _).alloc _)
 have HB0:=zh (show w0.heap[b2]? = some (.cells (bv (keyAt [] 0)).toArray 42 (0,0)) by
  rw [<- hw0,hb2];exact ((Mod.refl No _).alloc _).keep (heap_alloc_new w _) (fun f=>f))
 have HS0:=zh (show w0.heap[sb]? = some (.cells (c8 h0) 147 (0,0)) by
  rw [<- hw0,hsb,hb2];have h1:=heap_alloc_new (w.alloc (.cells (bv (keyAt [] 0)).toArray 42)) (.cells (c8 h0) 147);rw [show (w.alloc (.cells (bv (keyAt [] 0)).toArray 42)).heap.size=w.heap.size+1 by simp] at h1;exact h1)
 have HN:=zh (And.intro hb2 hsb)
 clear hw0 hb2 hsb hmA
 go_wp2_with fail
 refine (table_any _).mono ?_
 rintro e w1 ⟨rfl,hm1⟩
 have HM1:=zh (HM0.out.trans hm1)
 have HB1:=zh (hm1.keep HB0.out (fun f=>f))
 have HS1:=zh (hm1.keep HS0.out (fun f=>f))
 clear hm1 HM0 HB0 HS0
 go_wp2_with fail
 rw [run_storeCells_new w1 148 _ (c8 k0) (by kernel_rfl) (by kernel_rfl) (by kernel_rfl)]
 obtain ⟨kb,hkb⟩:∃ kb,kb=w1.heap.size:=⟨_,rfl⟩
 rw [<- hkb]
 obtain ⟨w2,hw2⟩:∃ y,y=w1.alloc (.cells (c8 k0) 148):=⟨_,rfl⟩
 rw [<- hw2]
 have hm2:Mod No w1 w2:=by rw [hw2];exact (Mod.refl No w1).alloc _
 have HK3:=zh (show w2.heap[kb]? = some (.cells (c8 k0) 148 (0,0)) by rw [hw2,hkb];exact heap_alloc_new w1 _)
 have HM2:=zh (HM1.out.trans hm2)
 have HB2:=zh (hm2.keep HB1.out (fun f=>f))
 have HS2:=zh (hm2.keep HS1.out (fun f=>f))
 have HL:=zh (show sb < w1.heap.size from lt_of_heap HS1.out)
 have HKB:=zh hkb
 clear hw2 hm2 HM1 HB1 HS1 hkb
 have hK2:=HK2.out
 clear HK2
 go_wp2_with fail
 refine (pad_any l V _ hl (HV.out.kn HM2.out)).mono ?_
 rintro e w3 ⟨v,rfl,hown,hm3⟩
 obtain ⟨n,hn⟩:∃ n,n=l.length / 64+lastN l:=⟨_,rfl⟩
 have hpl:=padT_length l
 rw [<- hn] at hpl
 have hn1:1<=n:=by rw [hn];have:=lastN_le l;omega
 have hn2:n<=4398046511104:=by rw [hn];exact padT_bound hl
 obtain ⟨bb,bc,rfl,hbb⟩:=own_shape hown (by omega)
 have hsl:Sl w3 No 5 (.slice (some ⟨bb,0,none⟩) (padT l).length bc) (padT l).length (bv (padT l)):=Sl.of_own hown (fun _ _ f=>f)
 have HBY:=zh (show ∀ k,k < 64*n->w3.cell? ⟨bb,0+k,none⟩=some (.int .u8 (bf (padT l) k)) from fun k hk=>hsl.bytes (by omega))
 have HM3:=zh (HM2.out.trans hm3)
 have HB3:=zh (hm3.keep HB2.out (fun f=>f))
 have HS3:=zh (hm3.keep HS2.out (fun f=>f))
 have HK4:=zh (hm3.keep HK3.out (fun f=>f))
 have HX:=zh (show bb ≠ sb/\kb ≠ sb/\w.heap.size<=sb by
  have h1:=lt_of_heap HS2.out;have h2:=HL.out;have h3:=HKB.out;have h4:=HN.out
  exact ⟨by omega,by omega,by omega⟩)
 have HNN:=zh (And.intro hn hn2)
 rw [hpl]
 clear hown hsl hm3 HM2 HB2 HS2 HK3 hbb hpl hn hn1 hn2 HV HL HKB
 go_upto_block 0 with fail
 rename_i K5 hK5
 refine wp_only (rblocks_any (bf (padT l)) sb kb bb 0 n bc (.pointer (some ⟨b2,0,none⟩)) _ w3 HNN.out.2 HX.out.1 HX.out.2.1 HS3.out HK4.out HBY.out ⟨rfl,rfl,rfl,rfl,rfl,rfl,rfl,trivial⟩) ?_
 rintro a4 w4 ⟨hF,hs4,hm4⟩
 have HSUM:=zh (show keyF (runF k0 n (bf (padT l)) h0)=sumF l by rw [HNN.out.1,<- sumF_padT,padT_length];congr 2;omega)
 have HF8:=zh (show (runF k0 n (bf (padT l)) h0).length=8 from runF_length _ _ _ _ rfl)
 have HS4:=zh hs4
 have HB4:=zh (hm4.keep HB3.out (fun e=>by have:=HN.out;omega))
 have HM4:=zh (HM3.out.then hm4 (S:=No) (fun i hi e=>absurd hi (by have:=HX.out;omega)))
 refine hK5 _ _ ?_
 clear hs4 hm4 hK5 K5 HS3 HB3 HM3 HK4 HBY
 obtain ⟨ts,ds⟩:=a4
 obtain ⟨hsz,hds,hs2,hs3,-⟩:=hF
 dsimp only at hsz hds hs2 hs3
 subst hds
 obtain ⟨c,rfl,hc⟩:=lit259 ts hsz
 rw [hc] at hs2
 rw [hc] at hs3
 simp only [hs2,hs3]
 clear hc hsz hs2 hs3
 obtain ⟨hf,hhf⟩:∃ hf,hf=runF k0 n (bf (padT l)) h0:=⟨_,rfl⟩
 rw [<- hhf] at HSUM HF8 HS4
 clear hhf
 go_upto_block 8 with fail
 rename_i K6 hK6
 obtain ⟨ob,hob⟩:∃ ob,ob=w4.heap.size:=⟨_,rfl⟩
 have hlq:=lt_of_heap HS4.out
 have hlb:=lt_of_heap HB4.out
 have hkq:ob ≠ sb:=by omega
 have hkb2:ob ≠ b2:=by omega
 rw [<- hob]
 generalize hw5:World.alloc w4 _=w5
 have hk5:w5.heap[ob]? = some (.cells (bv (keyAt hf 0)).toArray 42 (0,0)):=by rw [<- hw5,hob];exact heap_alloc_new w4 _
 have hm5:Mod No w4 w5:=by rw [<- hw5];exact (Mod.refl No w4).alloc _
 refine wp_only (rkey_any sb ob hf (.pointer (some ⟨b2,0,none⟩)) _ w5 HF8.out hkq (hm5.keep HS4.out (fun f=>f)) hk5 ⟨rfl,rfl,rfl,rfl,rfl,rfl,trivial⟩) ?_
 rintro a6 w6 ⟨hF,hk6,hm6⟩
 have hb6:=hm6.keep (hm5.keep HB4.out (fun f=>f)) (fun e=>hkb2 e.symm)
 have hmm:=HM4.out.then (hm5.then hm6 (S:=No) (fun i hi e=>absurd hi (by omega))) (fun i hi f=>f)
 refine hK6 _ _ ?_
 clear hK6 K6 c
 obtain ⟨ts,ds⟩:=a6
 obtain ⟨hsz,hds,hs2,hs23,-⟩:=hF
 dsimp only at hsz hds hs2 hs23
 subst hds
 obtain ⟨c,rfl,hc⟩:=lit259 ts hsz
 rw [hc] at hs2
 rw [hc] at hs23
 simp only [hs2,hs23]
 clear hc hsz hs2 hs23
 go_upto_region 31 with fail
 rename_i K7 hK7
 have hsz:(prog.info? 42).map (·.size)=some (bv (keyF hf)).toArray.size:=by
  rw [show (bv (keyF hf)).toArray.size=32 by simp [keyF]]
  kernel_rfl
 refine wp_region_lit ?_
 refine wpList_load_row rfl 42 _ rfl ob rfl 42 (bv (keyF hf)).toArray (0,0) _ hk6 underlying42 (by kernel_rfl) hsz ?_
 refine wpList_store_row rfl 42 _ _ rfl b2 (bv (keyF hf)).toArray rfl rfl 42 _ hb6 hsz (by simp [keyAt,keyF]) (by simp [bv,Value.oneCell']) ?_
 refine hK7 _ _ ?_
 refine wp_ret ?_
 exact bodyPost_ret (results_cell_row rfl _ _ b2 42 (bv (keyF hf)).toArray (0,0) _ rfl (setRow_heap _ _ _ _ _ _ hb6) underlying42 (by kernel_rfl) hsz) rfl (fin hR ⟨by rw [HSUM.out],hmm.then (T:=fun p=>p=b2) ⟨rfl,rfl,rfl,by simp [World.setRow],fun k hk hn=>setRow_other _ _ k _ hn⟩ (fun i hi e=>absurd hi (by have:=HN.out;omega))⟩)
theorem run_row {P:Program} {w:World} {g:Nat} {t:TypeId} {old:Array Value} {vs:List Value} (hg:w.heap[g]? = some (.cells old t (0,0))) (ho:old.size=vs.length) (h1:∀ v ∈ vs,v.oneCell'=true) :
  Sem.run P (storeCells ⟨g,0,none⟩ vs 0) w=.ok () (w.setRow g vs.toArray):=by
 have:=run_storeCells_from (P:=P) g t vs 0 old w hg (by omega) h1
 simpa using this
theorem Mod.setRow {S:Nat->Prop} {w w':World} (h:Mod S w w') {g:Nat} (hg:g < w.heap.size->S g) (cs:Array Value):Mod S w (w'.setRow g cs) :=
 h.then (T:=fun p=>p=g) ⟨rfl,rfl,rfl,by simp [World.setRow],fun k hk hn=>setRow_other _ _ k _ hn⟩ (fun i hi e=>by cases e;exact hg hi)
abbrev keyV (K:List UInt8):Value:=.agg (bv K).toArray
theorem key_size {K:List UInt8} (h:K.length=32):(prog.info? 43).map (·.size)=some (bv K).toArray.size:=by
 rw [show (bv K).toArray.size=32 by simp [h]]
 kernel_rfl
set_option maxRecDepth 100000 in
set_option maxHeartbeats 4000000 in
theorem refof_any (l:List UInt8) (pb po pc:Nat) (V:Value) (w:World) (hl:l.length<=70368744177664) (hp:w.cell? ⟨pb,po,none⟩=some V) (hV:Sl w No 5 V l.length (bv l)) :
  Calls prog 35 #[.slice (some ⟨pb,po,none⟩) 1 pc] w fun e w'=>e=.returned (.agg (bv (sumF l)).toArray)/\Mod No w w':=by
 refine calls_hide fun R hR=>?_
 obtain ⟨i0,hi,hz0,hz1,hz2⟩:=info_parts info_byte
 obtain ⟨va,vc,rfl⟩:=hV.len
 obtain ⟨n,hn⟩:∃ n,n=l.length:=⟨_,rfl⟩
 rw [<- hn] at hV hp
 have HN:=zh hn
 have HV:=zh hV
 have HP:=zh hp
 clear hV hp hn
 go_enter func35,ntmps35
 go_upto_region 1 with fail
 rename_i K1 hK1
 obtain ⟨b2,hb2⟩:∃ b,b=w.heap.size:=⟨_,rfl⟩
 rw [<- hb2]
 generalize hw0:World.alloc w _=w0
 have HM0:=zh (show Mod No w w0 by rw [<- hw0];exact (Mod.refl No w).alloc _)
 have HB0:=zh (show w0.heap[b2]? = some (.cells (bv (List.replicate 32 0)).toArray 43 (0,0)) by
  rw [<- hw0,hb2];exact heap_alloc_new w _)
 have HB2:=zh hb2
 clear hw0 hb2
 have c0:=HM0.out.cell HP.out (fun f=>f)
 go_wp2_with fail
 refine wp_loop_rounds 2 ?_
 rw [rounds_succ]
 go_wp2_with (at_builtin;refine app_sl _ rfl _ _ 29 rfl w0.heap.size 5 i0 (.int .u8 0) 1 1 underlying29 hi hz0 hz1 hz2 rfl (by decide) (.slice none 0 0) 0 [] rfl (World.ownsRow_nil _ _ _ _) No 5 _ n (bv l) rfl (HV.out.kn HM0.out) (by rw [bv_length,HN.out,Nat.mul_one]) (bv_one _) (by have:=HN.out;unfold maxLen;omega) (by have:=HN.out;omega) (Nat.le_refl _) ?_;intro v3 w3 hown hg hiff;rw [Nat.zero_add,List.nil_append] at hown;have HO3:=zh (And.intro hown hg);clear hown hg hiff)
 rw [rounds_succ]
 have HM3:=zh (HM0.out.trans (Mod.of_grown HO3.out.2 (fun k e _=>by cases e)))
 have HB3:=zh ((Mod.of_grown (S:=No) HO3.out.2 (fun k e _=>by cases e)).keep HB0.out (fun f=>f))
 have HS3:=zh (show Sl w3 No 5 v3 l.length (bv l) from Sl.of_own (by have:=HO3.out.1;rw [HN.out] at this;exact this) (fun _ _ f=>f))
 clear HM0 HB0 HO3 c0
 go_wp2_with fail
 refine (refsum_any l v3 _ hl HS3.out).mono ?_
 rintro e w4 ⟨rfl,hm4⟩
 have HM4:=zh (HM3.out.trans hm4)
 have hb4:=hm4.keep HB3.out (fun f=>f)
 have HS:=zh (sumF_length l)
 generalize sumF l=K at *
 clear hm4 HM3 HB3 HS3
 go_wp2_with fail
 rw [run_row hb4 (by simp [HS.out]) (bv_one _)]
 obtain ⟨w5,hw5⟩:∃ y,y=w4.setRow b2 (bv K).toArray:=⟨_,rfl⟩
 have hb5:w5.heap[b2]? = some (.cells (bv K).toArray 43 (0,0)):=by rw [hw5];exact setRow_heap _ _ _ _ _ _ hb4
 have HM5:=zh (show Mod No w w5 by rw [hw5];exact HM4.out.setRow (fun h=>by have:=HB2.out;omega) _)
 rw [<- hw5]
 clear hw5 hb4 HM4
 go_wp2_with fail
 exact bodyPost_ret (results_cell_row rfl _ _ b2 43 (bv K).toArray (0,0) _ rfl hb5 underlying43 (by kernel_rfl) (key_size HS.out)) rfl (fin hR ⟨rfl,HM5.out⟩)
set_option maxRecDepth 100000 in
theorem lit22 (t:Array Value) (h:t.size=22):∃ c:Nat->Value,t=#[c 0,c 1,c 2,c 3,c 4,c 5,c 6,c 7,c 8,c 9,c 10,c 11,c 12,c 13,c 14,c 15,c 16,c 17,c 18,c 19,c 20,c 21]/\∀ i,t.getD i undef=c i:=by
 refine ⟨fun i=>t.getD i undef,?_,fun _=>rfl⟩
 have h1:=arr_lits t
 rw [h] at h1
 exact h1.trans (by kernel_rfl)
def digs:List UInt8:=[48,49,50,51,52,53,54,55,56,57,97,98,99,100,101,102]
def digit (n:Nat):UInt8:=digs.getD n 0
def hexL (S:List UInt8):List UInt8:=S.flatMap fun c=>[digit (c.toNat / 16),digit (c.toNat % 16)]
theorem hexL_length (S:List UInt8):(hexL S).length=2*S.length:=by
 unfold hexL
 induction S with
 | nil=>rfl
 | cons c S ih=>rw [List.flatMap_cons,List.length_append,ih,List.length_cons];simp;omega
theorem hexL_take {S:List UInt8} {i:Nat} (h:i < S.length):hexL (S.take (i+1))=hexL (S.take i)++[digit ((S.getD i 0).toNat / 16),digit ((S.getD i 0).toNat % 16)]:=by
 have e:S[i]=S.getD i 0:=by rw [List.getD_eq_getElem?_getD,List.getElem?_eq_getElem h];rfl
 rw [List.take_succ_eq_append_getElem h,e]
 simp [hexL]
theorem and15 (y:Nat) (h:y < 256):bits .and .u8 (y:Int) 15=((y % 16:Nat):Int):=by
 have hx:y &&& 15 < 2 ^ 8:=Nat.and_lt_two_pow _ (by omega)
 have h1:(BitVec.ofInt 8 (y:Int)).toNat=y:=by rw [BitVec.ofInt_natCast,BitVec.toNat_ofNat];exact Nat.mod_eq_of_lt (by omega)
 have e:y &&& 15=y % 2 ^ 4:=Nat.and_two_pow_sub_one_eq_mod y 4
 show IntKind.u8.wrap ((BitVec.ofInt 8 (y:Int) &&& BitVec.ofInt 8 15).toNat:Int)=_
 rw [BitVec.toNat_and,h1,show (BitVec.ofInt 8 15).toNat=15 from rfl,e]
 have h2:IntKind.u8.wrap ((y % 2 ^ 4:Nat):Int)=((y % 2 ^ 4:Nat):Int):=by rw [IntKind.wrap_u8];omega
 rw [h2]
theorem run_dig (n:Nat) (h:n < 16) (W:World):(Instr.index 9 (.string ⟨#[48,49,50,51,52,53,54,55,56,57,97,98,99,100,101,102]⟩) (.int .u8 (n:Int))).run prog W=.ok (.int .u8 ((digit n).toNat:Int)) W:=by
 have hi:(0:Int)<=(n:Int)/\(n:Int) < ((⟨#[48,49,50,51,52,53,54,55,56,57,97,98,99,100,101,102]⟩:ByteArray).size:Int):=⟨Int.natCast_nonneg _,by show (n:Int) < 16;omega⟩
 rw [run_index_string W 9 _ .u8 n underlying9,dif_pos hi]
 match n,h with
 | 0,_=>rfl
 | 1,_=>rfl
 | 2,_=>rfl
 | 3,_=>rfl
 | 4,_=>rfl
 | 5,_=>rfl
 | 6,_=>rfl
 | 7,_=>rfl
 | 8,_=>rfl
 | 9,_=>rfl
 | 10,_=>rfl
 | 11,_=>rfl
 | 12,_=>rfl
 | 13,_=>rfl
 | 14,_=>rfl
 | 15,_=>rfl
 | k+16,h=>exact absurd h (by omega)
theorem run_index_key {S:List UInt8} (hS:S.length=32) {i:Nat} (hi:i < 32) (W:World):(Instr.index 43 (keyV S) (.int .i64 (i:Int))).run prog W=.ok (.int .u8 ((S.getD i 0).toNat:Int)) W:=by
 have h1:0<=(i:Int)/\(i:Int) < 32:=by omega
 have h2:(bv S)[i]? = some (.int .u8 ((S.getD i 0).toNat:Int)):=bv_bf (by omega)
 simp [Instr.index,run_underlying underlying43,asIntOf,h1]
 rw [if_pos hi]
 have h4:(isAgg 5).run prog W=.ok false W:=by kernel_rfl
 have h3:(bv S).toArray[i]? = some (.int .u8 ((S.getD i 0).toNat:Int)):=by rw [List.getElem?_toArray];exact h2
 unfold part
 simp only [Sem.run_bind,h4,Result.andThen_ok,h3,Bool.false_eq_true,if_false,Sem.run_pure]
 rw [List.getD_eq_getElem?_getD]
noncomputable def bodyH:Code:=Tryz.f72.body.getD .skip
noncomputable def blkH1:Code:=(blockAt 1 bodyH).getD .skip
noncomputable def blkH0:Code:=(blockAt 0 bodyH).getD .skip
set_option maxRecDepth 100000 in
set_option maxHeartbeats 4000000 in
theorem hexstep_any (S:List UInt8) (hS:S.length=32) (base i n:Nat) (v:Value) (a:Act) (w:World) (hi:i < 32) (hn:n=2*i) (hb:base<=w.heap.size) (hown:w.ownsRow base 5 1 v n (bv (hexL (S.take i))))
  (hF:Fr 22 [(3,v),(6,keyV S),(7,.int .i64 (i:Int))] a) :
  Code.wp prog blkH1 (Exit.then (fun a' w'=>(∃ v',Fr 22 [(3,v'),(6,keyV S),(7,.int .i64 (i:Int))] a'/\w'.ownsRow base 5 1 v' (n+2) (bv (hexL (S.take (i+1)))))/\base<=w'.heap.size/\Mod (fun p=>base<=p) w w') Nope) a w:=by
 refine wp_part fun J K' hJ hK=>?_
 obtain ⟨i0,hi0,hz0,hz1,hz2⟩:=info_parts info_byte
 have HJ:=zh hJ
 clear hJ
 obtain ⟨ts,ds⟩:=a
 obtain ⟨hsz,hds,hs3,hs6,hs7,-⟩:=hF
 dsimp only at hsz hds hs3 hs6 hs7
 subst hds
 obtain ⟨c,rfl,hc⟩:=lit22 ts hsz
 rw [hc] at hs3
 rw [hc] at hs6
 rw [hc] at hs7
 simp only [hs3,hs6,hs7]
 clear hc hsz hs3 hs6 hs7
 have RK:=run_index_key hS hi
 have HT:=zh (hexL_take (S:=S) (i:=i) (by omega))
 generalize hy:(S.getD i 0).toNat=y at *
 have hy2:y < 256:=by rw [<- hy];exact UInt8.toNat_lt _
 have HH:=zh hn
 have hn64:n<=62:=by omega
 obtain ⟨q,hq⟩:∃ q,q=y / 16:=⟨_,rfl⟩
 obtain ⟨r,hr⟩:∃ r,r=y % 16:=⟨_,rfl⟩
 obtain ⟨d1,hd1⟩:∃ d,d=(digit q).toNat:=⟨_,rfl⟩
 obtain ⟨d2,hd2⟩:∃ d,d=(digit r).toNat:=⟨_,rfl⟩
 have EQ:=zh (show (y:Int) / 16=(q:Int) by omega)
 have ER:=zh (show bits .and .u8 (y:Int) 15=(r:Int) by rw [and15 y hy2,hr])
 have RQ:=zh (fun W=>show (Instr.index 9 (.string ⟨#[48,49,50,51,52,53,54,55,56,57,97,98,99,100,101,102]⟩) (.int .u8 (q:Int))).run prog W=.ok (.int .u8 (d1:Int)) W by rw [hd1];exact run_dig q (by omega) W)
 have RR:=zh (fun W=>show (Instr.index 9 (.string ⟨#[48,49,50,51,52,53,54,55,56,57,97,98,99,100,101,102]⟩) (.int .u8 (r:Int))).run prog W=.ok (.int .u8 (d2:Int)) W by rw [hd2];exact run_dig r (by omega) W)
 have HTT:=zh (show bv (hexL (S.take (i+1)))=bv (hexL (S.take i))++[.int .u8 (d1:Int),.int .u8 (d2:Int)] by rw [HT.out,bv_append,hd1,hd2,hq,hr];rfl)
 have HO:=zh hown
 have HB:=zh hb
 clear hy hq hr hd1 hd2 HT hown hb hn
 conv=>arg 2;whnf
 go_upto_region 5 with fail
 obtain ⟨wA,hwA⟩:∃ y,y=w.drew:=⟨_,rfl⟩
 have HWA:=zh hwA
 have HMA:=zh (show Mod No w wA by rw [hwA];exact (Mod.refl No w).drew)
 have HOA:=zh (own_keepM HO.out HMA.out (fun _ _ f=>f))
 have HBA:=zh (Nat.le_trans HB.out HMA.out.size)
 have hS0:True:=trivial
 clear hwA
 refine wp_region_T (fun _=>True) 99 (by kernel_rfl) ?_
 rw [<- HWA.out]
 refine yT 0 (some 10) ?_ hS0 ?_ ?_
 rotate_left
 ·(intro w' hSw;go_simp;try with_reducible rfl)
 simp only [Act.put,yB,yC,yD]
 refine yT 1 (some 11) ?_ hS0 ?_ ?_
 rotate_left
 ·(intro w' hSw;go_simp;try with_reducible rfl)
 simp only [Act.put,yB,yC,yD]
 refine yT 2 (some 12) (.int .u8 (q:Int)) hS0 ?_ ?_
 ·(intro w' hSw;go_simp;exact EQ.out)
 simp only [Act.put,yB,yC,yD]
 refine yT 3 (some 13) (.int .u8 (d1:Int)) hS0 ?_ ?_
 ·(intro w' hSw;have rr:=RQ.out w';go_simp;try with_reducible rfl)
 simp only [Act.put,yB,yC,yD]
 refine yT 4 (some 14) ?_ hS0 ?_ ?_
 rotate_left
 ·(intro w' hSw;go_simp;try with_reducible rfl)
 simp only [Act.put,yB,yC,yD]
 refine yT 5 (some 15) (.int .u8 (r:Int)) hS0 ?_ ?_
 ·(intro w' hSw;go_simp;exact ER.out)
 simp only [Act.put,yB,yC,yD]
 refine yT 6 (some 16) (.int .u8 (d2:Int)) hS0 ?_ ?_
 ·(intro w' hSw;have rr:=RR.out w';go_simp;try with_reducible rfl)
 simp only [Act.put,yB,yC,yD]
 refine wpAnyT_one 7 rfl (by kernel_rfl) rfl ?_
 intro K hK
 obtain ⟨g,hg⟩:∃ g,g=wA.heap.size:=⟨_,rfl⟩
 obtain ⟨wB,hwB⟩:∃ y,y=wA.alloc (.cells #[.int .u8 (d1:Int),.int .u8 (d2:Int)] 5):=⟨_,rfl⟩
 have HGB:=zh (show wB.heap[g]? = some (.cells #[.int .u8 (d1:Int),.int .u8 (d2:Int)] 5 (0,0)) by rw [hwB,hg];exact heap_alloc_new _ _)
 have HMB:=zh (show Mod No wA wB by rw [hwB];exact (Mod.refl No wA).alloc _)
 have HOB:=zh (own_keepM HOA.out HMB.out (fun _ _ f=>f))
 have HBB:=zh (show base<=wB.heap.size from Nat.le_trans HBA.out HMB.out.size)
 have HWB:=zh hwB
 have HG:=zh hg
 clear hg hwB
 go_simp
 rw [<- HG.out,<- HWB.out]
 show K _ _
 have hS1:=trivial
 refine hK.out _ _ (fun _=>hS1) ?_
 clear hK K
 refine wpAnyT_one 8 rfl (by kernel_rfl) rfl ?_
 intro K hK
 refine wp_app_sl _ (.tmp 10) (.tmp 17) 29 (by rfl) base 5 i0 (.int .u8 0) 1 1 underlying29 hi0 hz0 hz1 hz2 rfl (by decide) v n _ (by rfl) HOB.out No 5 (.slice (some ⟨g,0,none⟩) 2 2) 2 [.int .u8 (d1:Int),.int .u8 (d2:Int)] (by rfl) (.inr ⟨g,0,2,_,_,rfl,Nat.le_refl _,by unfold maxLen;omega,fun f=>f,HGB.out,by simp,fun i hi=>by match i,hi with | 0,_=>rfl | 1,_=>rfl | k+2,h=>exact absurd h (by simp)⟩) rfl (by simp [Value.oneCell']) (by unfold maxLen;omega) (by omega) HBB.out ?_
 intro v5 w5 hown hg5 _
 show K (Act.put _ (some 18) v5) w5
 have HO5:=zh hown
 have HM5:=zh (show Mod (fun p=>base<=p) wA w5 from (HMB.out.weaken fun _ _ f=>f.elim:Mod (fun p=>base<=p) wA wB).trans (Mod.of_grown hg5 (fun k e _=>(HOB.out.lt _ e).1)))
 have HB5:=zh (show base<=w5.heap.size from Nat.le_trans HBB.out hg5.size)
 clear hown hg5
 show K _ _
 have hS2:=trivial
 refine hK.out _ _ (fun _=>hS2) ?_
 clear hK K
 refine yT 9 (some 3) ?_ hS2 ?_ ?_
 rotate_left
 ·(intro w' hSw;go_simp;try with_reducible rfl)
 simp only [Act.put]
 refine wpAnyT_done (by kernel_rfl) ?_ _
 go_wp2_with fail
 exact Met.intro (HJ.out _ _ ⟨⟨_,⟨rfl,rfl,rfl,rfl,rfl,trivial⟩,by rw [HTT.out];exact HO5.out⟩,HB5.out,(HMA.out.weaken fun _ _ f=>f.elim:Mod (fun p=>base<=p) w wA).trans HM5.out⟩)
def LpH (w0:World) (S:List UInt8) (base:Nat) (k:Nat) (a:Act) (w:World):Prop :=
 ∃ i n v,i+k=32/\n=2*i/\base<=w.heap.size/\w.ownsRow base 5 1 v n (bv (hexL (S.take i)))/\Mod (fun p=>base<=p) w0 w/\Fr 22 [(3,v),(6,keyV S),(7,.int .i64 (i:Int))] a
set_option maxRecDepth 100000 in
set_option maxHeartbeats 4000000 in
theorem hexloop_any (S:List UInt8) (hS:S.length=32) (base:Nat) (v:Value) (f:Act) (w:World) (hb:base<=w.heap.size) (hown:w.ownsRow base 5 1 v 0 [])
  (hF:Fr 22 [(3,v),(6,keyV S),(7,.int .i64 0)] f) :
  Code.wp prog blkH0 (Exit.then (fun a' w'=>(∃ v',Fr 22 [(3,v')] a'/\w'.ownsRow base 5 1 v' (hexL S).length (bv (hexL S)))/\Mod (fun p=>base<=p) w w') Nope) f w:=by
 refine wp_part fun J K' hJ hK=>?_
 have H0:=zh (show LpH w S base 32 f w from ⟨0,0,v,rfl,rfl,hb,hown,Mod.refl _ w,hF⟩)
 have HJ:=zh hJ
 obtain ⟨w0,hw0⟩:∃ w0,w0=w:=⟨_,rfl⟩
 rw [<- hw0] at HJ H0
 clear hF hJ hb hown
 conv=>arg 2;whnf
 go_step
 refine wp_loop_ghost_k (LpH w0 S base) 32 (by rw [hw0] at H0 ⊢;exact H0.out) ?_
 clear H0 hw0 f w v
 intro k f w hI J2 K2 hJ2 hK2
 have HJ2:=zh hJ2
 obtain ⟨i,n,v,hik,hn,hb,hown,hmod,hF⟩:=hI
 have HO:=zh hown
 have HM:=zh hmod
 have HB:=zh hb
 have HN:=zh hn
 clear hJ2 hown hmod hb hn
 obtain ⟨ts,ds⟩:=f
 obtain ⟨hsz,hds,hs3,hs6,hs7,-⟩:=hF
 dsimp only at hsz hds hs3 hs6 hs7
 subst hds
 obtain ⟨c,rfl,hc⟩:=lit22 ts hsz
 rw [hc] at hs3
 rw [hc] at hs6
 rw [hc] at hs7
 simp only [hs3,hs6,hs7]
 clear hc hsz hs3 hs6 hs7
 have hi0:(0:Int)<=(i:Int):=Int.natCast_nonneg _
 by_cases hi:i < 32
 ·have hi64:(i:Int) < 32:=by omega
  go_upto_block 1 with fail
  rename_i K5 hK5
  refine wp_only (hexstep_any S hS base i n v _ w hi HN.out HB.out HO.out ⟨rfl,rfl,rfl,rfl,rfl,trivial⟩) ?_
  rintro a2 w2 ⟨⟨v2,hF,hown2⟩,hb2,hm2⟩
  have HM2:=zh (HM.out.trans hm2)
  have HO2:=zh hown2
  have HB2:=zh hb2
  clear hown2 hb2 hm2 HO HB
  refine hK5 _ _ ?_
  obtain ⟨ts,ds⟩:=a2
  obtain ⟨hsz,hds,hs3,hs6,hs7,-⟩:=hF
  dsimp only at hsz hds hs3 hs6 hs7
  subst hds
  obtain ⟨c,rfl,hc⟩:=lit22 ts hsz
  rw [hc] at hs3
  rw [hc] at hs6
  rw [hc] at hs7
  simp only [hs3,hs6,hs7]
  clear hc hsz hs3 hs6 hs7
  clear hK5 K5
  go_wp2_with fail
  exact Handed.intro (k - 1) (by omega) (HJ2.out _ _ _ ⟨i+1,n+2,v2,by omega,by have:=HN.out;omega,HB2.out,HO2.out,HM2.out,rfl,rfl,rfl,rfl,by go_num,trivial⟩)
 ·have hi64:i=32:=by omega
  subst hi64
  have HF:=zh (show w.ownsRow base 5 1 v (hexL S).length (bv (hexL S)) by
   have h1:=HO.out
   rw [List.take_of_length_le (by omega)] at h1
   rw [hexL_length,hS]
   rw [HN.out] at h1
   exact h1)
  go_wp2_with fail
  exact Met.intro (HJ.out _ _ ⟨⟨_,⟨rfl,rfl,rfl,trivial⟩,HF.out⟩,HM.out⟩)
set_option maxRecDepth 100000 in
set_option maxHeartbeats 4000000 in
theorem hex_any (S:List UInt8) (hS:S.length=32) (w:World) :
  Calls prog 72 #[keyV S] w fun e w'=>e=.returned (.string ⟨(hexL S).toArray⟩)/\Mod No w w':=by
 refine calls_hide fun R hR=>?_
 go_enter func72,ntmps72
 go_upto_region 1 with fail
 obtain ⟨g,hg⟩:∃ g,g=w.heap.size:=⟨_,rfl⟩
 obtain ⟨w1,hw1⟩:∃ y,y=w.alloc (.cells (bv S).toArray 43):=⟨_,rfl⟩
 rw [<- hg,<- hw1]
 have HM1:=zh (show Mod No w w1 by rw [hw1];exact (Mod.refl No w).alloc _)
 have hk:w1.heap[g]? = some (.cells (bv S).toArray 43 (0,0)):=by rw [hw1,hg];exact heap_alloc_new w _
 clear hw1 hg
 go_upto_region 2 with fail
 rename_i K2 hK2
 refine wp_region_lit ?_
 refine wpList_load_row rfl 43 _ rfl g rfl 43 (bv S).toArray (0,0) _ hk underlying43 rfl (key_size hS) ?_
 go_upto_block 0 with fail
 rename_i K5 hK5
 refine wp_only (hexloop_any S hS w1.heap.size (.slice none 0 0) _ w1 (Nat.le_refl _) (World.ownsRow_nil _ _ _ _) ⟨rfl,rfl,rfl,rfl,rfl,trivial⟩) ?_
 rintro a2 w2 ⟨⟨v2,hF,hown2⟩,hm2⟩
 have HM2:=zh (HM1.out.then hm2 (S:=No) (fun i hi e=>by have e:w1.heap.size<=i:=e;have:=HM1.out.size;omega))
 have hcv:=string_of (P:=prog) (Sl.of_own hown2 (X:=No) (fun _ _ f=>f)) underlying29 underlying5 underlying9
 refine hK5 _ _ ?_
 clear hm2 hown2 hK5 K5
 obtain ⟨ts,ds⟩:=a2
 obtain ⟨hsz,hds,hs3,-⟩:=hF
 dsimp only at hsz hds hs3
 subst hds
 obtain ⟨c,rfl,hc⟩:=lit22 ts hsz
 rw [hc] at hs3
 simp only [hs3]
 clear hc hsz hs3
 go_wp2_with fail
 exact fin hR ⟨rfl,HM2.out⟩
theorem hexD_digit:∀ n:Fin 16,hexD (digit n.1)=some n.1:=by decide +kernel
theorem digit_hexD_all:∀ n:Fin 256,(hexD (UInt8.ofNat n.1)).all (fun x=>decide (x < 16) && decide (digit x=UInt8.ofNat n.1))=true:=by decide +kernel
theorem digit_hexD {c:UInt8} {x:Nat} (h:hexD c=some x):x < 16/\digit x=c:=by
 have hc:=UInt8.toNat_lt c
 have e:UInt8.ofNat c.toNat=c:=by simp
 have:=digit_hexD_all ⟨c.toNat,by omega⟩
 dsimp only at this
 rw [e,h] at this
 simpa using this
theorem byte_pair (c:UInt8):UInt8.ofNat (16*(c.toNat / 16)+c.toNat % 16)=c:=by
 rw [Nat.div_add_mod];simp
theorem unhex_hex:∀ S:List UInt8,unhexL (hexL S)=some S
 | []=>rfl
 | c :: S=>by
  have hc:=UInt8.toNat_lt c
  have e1:hexL (c :: S)=digit (c.toNat / 16) :: digit (c.toNat % 16) :: hexL S:=rfl
  have h1:=hexD_digit ⟨c.toNat / 16,by omega⟩
  have h2:=hexD_digit ⟨c.toNat % 16,by omega⟩
  dsimp only at h1 h2
  rw [e1,unhexL,h1,h2,unhex_hex S]
  show some (UInt8.ofNat (16*(c.toNat / 16)+c.toNat % 16) :: S)=_
  rw [byte_pair]
theorem hex_unhex:∀ {l S:List UInt8},unhexL l=some S->hexL S=l
 | [],S,h=>by cases h;rfl
 | [_],S,h=>by cases h
 | a :: b :: l,S,h=>by
  rw [unhexL] at h
  cases ha:hexD a with
  | none=>rw [ha] at h;simp at h
  | some x =>
   cases hb:hexD b with
   | none=>rw [ha,hb] at h;simp at h
   | some y =>
    cases hr:unhexL l with
    | none=>rw [ha,hb,hr] at h;simp at h
    | some r =>
     rw [ha,hb,hr] at h
     simp only [Option.some.injEq] at h
     subst h
     obtain ⟨hx,ex⟩:=digit_hexD ha
     obtain ⟨hy,ey⟩:=digit_hexD hb
     have e1:hexL (UInt8.ofNat (16*x+y) :: r)=digit ((UInt8.ofNat (16*x+y)).toNat / 16) :: digit ((UInt8.ofNat (16*x+y)).toNat % 16) :: hexL r:=rfl
     have e2:(UInt8.ofNat (16*x+y)).toNat=16*x+y:=by
      rw [UInt8.toNat_ofNat'];exact Nat.mod_eq_of_lt (by omega)
     rw [e1,e2,hex_unhex hr,show (16*x+y) / 16=x by omega,show (16*x+y) % 16=y by omega,ex,ey]
theorem unhex_some:∀ {l:List UInt8},l.length % 2=0->(∀ i (hi:i < l.length),hexD l[i] ≠ none)->∃ S,unhexL l=some S
 | [],_,_=>⟨[],rfl⟩
 | [_],h,_=>by simp at h
 | a :: b :: l,h,h2=>by
  obtain ⟨S,hS⟩:=unhex_some (l:=l) (by simp only [List.length_cons] at h;omega) (fun i hi=>h2 (i+2) (by simpa using hi))
  have ha:=h2 0 (by simp)
  have hb:=h2 1 (by simp)
  simp only [List.getElem_cons_zero,List.getElem_cons_succ] at ha hb
  rw [unhexL,hS]
  cases hx:hexD a with
  | none=>exact absurd hx ha
  | some x =>
   cases hy:hexD b with
   | none=>exact absurd hy hb
   | some y=>exact ⟨_,rfl⟩
theorem sum_of {l S:List UInt8} (h:sumL l=some S):S.length=32/\l=hexL S:=by
 unfold sumL at h
 split at h
 ·rename_i hl
  have h2:=hex_unhex h
  refine ⟨?_,h2.symm⟩
  have:=hexL_length S
  rw [h2,hl] at this
  omega
 ·cases h
theorem sum_hex {S:List UInt8} (h:S.length=32):sumL (hexL S)=some S:=by
 unfold sumL
 rw [if_pos (by rw [hexL_length,h]),unhex_hex]
end Go.Proofs.YtgiigemfbebcgaaGreatDoor
