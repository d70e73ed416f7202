/-
  Layers 0 to 14: helps of the laws of indexes. No statement is proved here; no condition.
-/
import Derived.Test.YtmppeipgjcjdkaaGreatDoorW05
import Derived.Test.YtmppeipgjcjdkaaGreatDoorW01
import Derived.Test.YtmppeipgjcjdkaaGreatDoorW04
import Derived.Test.YtmppeipgjcjdkaaGreatDoorW00
import Derived.Deep.WholeRow
import Derived.Lib.ConvBytes
namespace Go.Proofs.YtmppeipgjcjdkaaGreatDoor
open _root_.Go.Proofs.Tryz
open Go.RowKit
theorem run_row {P:Program} {w:World} {g:Nat} {t:TypeId} {old:Array Value} {vs:List Value} (hg:w.heap[g]? = some (.cells old t (0,0))) (ho:old.size=vs.length) (h1:∀ v ∈ vs,v.oneCell'=true) :
  Sem.run P (storeCells ⟨g,0,none⟩ vs 0) w=.ok () (w.setRow g vs.toArray):=by
 have:=run_storeCells_from (P:=P) g t vs 0 old w hg (by omega) h1
 simpa using this
theorem Mod.setRow {S:Nat->Prop} {w w':World} (h:Mod S w w') {g:Nat} (hg:g < w.heap.size->S g) (cs:Array Value):Mod S w (w'.setRow g cs) :=
 h.then (T:=fun p=>p=g) ⟨rfl,rfl,rfl,by simp [World.setRow],fun k hk hn=>setRow_other _ _ k _ hn⟩ (fun i hi e=>by cases e;exact hg hi)
abbrev keyV (K:List UInt8):Value:=.agg (bv K).toArray
theorem key_size {K:List UInt8} (h:K.length=32):(prog.info? 47).map (·.size)=some (bv K).toArray.size:=by
 rw [show (bv K).toArray.size=32 by simp [h]]
 kernel_rfl
set_option maxRecDepth 100000 in
theorem lit22 (t:Array Value) (h:t.size=22):∃ c:Nat->Value,t=#[c 0,c 1,c 2,c 3,c 4,c 5,c 6,c 7,c 8,c 9,c 10,c 11,c 12,c 13,c 14,c 15,c 16,c 17,c 18,c 19,c 20,c 21]/\∀ i,t.getD i undef=c i:=by
 refine ⟨fun i=>t.getD i undef,?_,fun _=>rfl⟩
 have h1:=arr_lits t
 rw [h] at h1
 exact h1.trans (by kernel_rfl)
def digs:List UInt8:=[48,49,50,51,52,53,54,55,56,57,97,98,99,100,101,102]
def digit (n:Nat):UInt8:=digs.getD n 0
def hexL (S:List UInt8):List UInt8:=S.flatMap fun c=>[digit (c.toNat / 16),digit (c.toNat % 16)]
theorem hexL_length (S:List UInt8):(hexL S).length=2*S.length:=by
 unfold hexL
 induction S with
 | nil=>rfl
 | cons c S ih=>rw [List.flatMap_cons,List.length_append,ih,List.length_cons];simp;omega
theorem hexL_take {S:List UInt8} {i:Nat} (h:i < S.length):hexL (S.take (i+1))=hexL (S.take i)++[digit ((S.getD i 0).toNat / 16),digit ((S.getD i 0).toNat % 16)]:=by
 have e:S[i]=S.getD i 0:=by rw [List.getD_eq_getElem?_getD,List.getElem?_eq_getElem h];rfl
 rw [List.take_succ_eq_append_getElem h,e]
 simp [hexL]
theorem and15 (y:Nat) (h:y < 256):bits .and .u8 (y:Int) 15=((y % 16:Nat):Int):=by
 have hx:y &&& 15 < 2 ^ 8:=Nat.and_lt_two_pow _ (by omega)
 have h1:(BitVec.ofInt 8 (y:Int)).toNat=y:=by rw [BitVec.ofInt_natCast,BitVec.toNat_ofNat];exact Nat.mod_eq_of_lt (by omega)
 have e:y &&& 15=y % 2 ^ 4:=Nat.and_two_pow_sub_one_eq_mod y 4
 show IntKind.u8.wrap ((BitVec.ofInt 8 (y:Int) &&& BitVec.ofInt 8 15).toNat:Int)=_
 rw [BitVec.toNat_and,h1,show (BitVec.ofInt 8 15).toNat=15 from rfl,e]
 have h2:IntKind.u8.wrap ((y % 2 ^ 4:Nat):Int)=((y % 2 ^ 4:Nat):Int):=by rw [IntKind.wrap_u8];omega
 rw [h2]
theorem run_dig (n:Nat) (h:n < 16) (W:World):(Instr.index 9 (.string ⟨#[48,49,50,51,52,53,54,55,56,57,97,98,99,100,101,102]⟩) (.int .u8 (n:Int))).run prog W=.ok (.int .u8 ((digit n).toNat:Int)) W:=by
 have hi:(0:Int)<=(n:Int)/\(n:Int) < ((⟨#[48,49,50,51,52,53,54,55,56,57,97,98,99,100,101,102]⟩:ByteArray).size:Int):=⟨Int.natCast_nonneg _,by show (n:Int) < 16;omega⟩
 rw [run_index_string W 9 _ .u8 n underlying9,dif_pos hi]
 match n,h with
 | 0,_=>rfl
 | 1,_=>rfl
 | 2,_=>rfl
 | 3,_=>rfl
 | 4,_=>rfl
 | 5,_=>rfl
 | 6,_=>rfl
 | 7,_=>rfl
 | 8,_=>rfl
 | 9,_=>rfl
 | 10,_=>rfl
 | 11,_=>rfl
 | 12,_=>rfl
 | 13,_=>rfl
 | 14,_=>rfl
 | 15,_=>rfl
 | k+16,h=>exact absurd h (by omega)
theorem run_index_key {S:List UInt8} (hS:S.length=32) {i:Nat} (hi:i < 32) (W:World):(Instr.index 47 (keyV S) (.int .i64 (i:Int))).run prog W=.ok (.int .u8 ((S.getD i 0).toNat:Int)) W:=by
 have h1:0<=(i:Int)/\(i:Int) < 32:=by omega
 have h2:(bv S)[i]? = some (.int .u8 ((S.getD i 0).toNat:Int)):=bv_bf (by omega)
 simp [Instr.index,run_underlying underlying47,asIntOf,h1]
 rw [if_pos hi]
 have h4:(isAgg 5).run prog W=.ok false W:=by kernel_rfl
 have h3:(bv S).toArray[i]? = some (.int .u8 ((S.getD i 0).toNat:Int)):=by rw [List.getElem?_toArray];exact h2
 unfold part
 simp only [Sem.run_bind,h4,Result.andThen_ok,h3,Bool.false_eq_true,if_false,Sem.run_pure]
 rw [List.getD_eq_getElem?_getD]
noncomputable def bodyH:Code:=Tryz.f53.body.getD .skip
noncomputable def blkH1:Code:=(blockAt 1 bodyH).getD .skip
noncomputable def blkH0:Code:=(blockAt 0 bodyH).getD .skip
set_option maxRecDepth 100000 in
set_option maxHeartbeats 4000000 in
theorem hexstep_any (S:List UInt8) (hS:S.length=32) (base i n:Nat) (v:Value) (a:Act) (w:World) (hi:i < 32) (hn:n=2*i) (hb:base<=w.heap.size) (hown:w.ownsRow base 5 1 v n (bv (hexL (S.take i))))
  (hF:Fr 22 [(3,v),(6,keyV S),(7,.int .i64 (i:Int))] a) :
  Code.wp prog blkH1 (Exit.then (fun a' w'=>(∃ v',Fr 22 [(3,v'),(6,keyV S),(7,.int .i64 (i:Int))] a'/\w'.ownsRow base 5 1 v' (n+2) (bv (hexL (S.take (i+1)))))/\base<=w'.heap.size/\Mod (fun p=>base<=p) w w') Nope) a w:=by
 refine wp_part fun J K' hJ hK=>?_
 obtain ⟨i0,hi0,hz0,hz1,hz2⟩:=info_parts info_byte
 have HJ:=zh hJ
 clear hJ
 obtain ⟨ts,ds⟩:=a
 obtain ⟨hsz,hds,hs3,hs6,hs7,-⟩:=hF
 dsimp only at hsz hds hs3 hs6 hs7
 subst hds
 obtain ⟨c,rfl,hc⟩:=lit22 ts hsz
 rw [hc] at hs3
 rw [hc] at hs6
 rw [hc] at hs7
 simp only [hs3,hs6,hs7]
 clear hc hsz hs3 hs6 hs7
 have RK:=run_index_key hS hi
 have HT:=zh (hexL_take (S:=S) (i:=i) (by omega))
 generalize hy:(S.getD i 0).toNat=y at *
 have hy2:y < 256:=by rw [<- hy];exact UInt8.toNat_lt _
 have HH:=zh hn
 have hn64:n<=62:=by omega
 obtain ⟨q,hq⟩:∃ q,q=y / 16:=⟨_,rfl⟩
 obtain ⟨r,hr⟩:∃ r,r=y % 16:=⟨_,rfl⟩
 obtain ⟨d1,hd1⟩:∃ d,d=(digit q).toNat:=⟨_,rfl⟩
 obtain ⟨d2,hd2⟩:∃ d,d=(digit r).toNat:=⟨_,rfl⟩
 have EQ:=zh (show (y:Int) / 16=(q:Int) by omega)
 have ER:=zh (show bits .and .u8 (y:Int) 15=(r:Int) by rw [and15 y hy2,hr])
 have RQ:=zh (fun W=>show (Instr.index 9 (.string ⟨#[48,49,50,51,52,53,54,55,56,57,97,98,99,100,101,102]⟩) (.int .u8 (q:Int))).run prog W=.ok (.int .u8 (d1:Int)) W by rw [hd1];exact run_dig q (by omega) W)
 have RR:=zh (fun W=>show (Instr.index 9 (.string ⟨#[48,49,50,51,52,53,54,55,56,57,97,98,99,100,101,102]⟩) (.int .u8 (r:Int))).run prog W=.ok (.int .u8 (d2:Int)) W by rw [hd2];exact run_dig r (by omega) W)
 have HTT:=zh (show bv (hexL (S.take (i+1)))=bv (hexL (S.take i))++[.int .u8 (d1:Int),.int .u8 (d2:Int)] by rw [HT.out,bv_append,hd1,hd2,hq,hr];rfl)
 have HO:=zh hown
 have HB:=zh hb
 clear hy hq hr hd1 hd2 HT hown hb hn
 conv=>arg 2;whnf
 go_upto_region 5 with fail
 obtain ⟨wA,hwA⟩:∃ y,y=w.drew:=⟨_,rfl⟩
 have HWA:=zh hwA
 have HMA:=zh (show Mod No w wA by rw [hwA];exact (Mod.refl No w).drew)
 have HOA:=zh (own_keepM HO.out HMA.out (fun _ _ f=>f))
 have HBA:=zh (Nat.le_trans HB.out HMA.out.size)
 have hS0:True:=trivial
 clear hwA
 refine wp_region_T (fun _=>True) 99 (by kernel_rfl) ?_
 rw [<- HWA.out]
 refine yT 0 (some 10) ?_ hS0 ?_ ?_
 rotate_left
 ·(intro w' hSw;go_simp;try with_reducible rfl)
 simp only [Act.put,yB,yC,yD]
 refine yT 1 (some 11) ?_ hS0 ?_ ?_
 rotate_left
 ·(intro w' hSw;go_simp;try with_reducible rfl)
 simp only [Act.put,yB,yC,yD]
 refine yT 2 (some 12) (.int .u8 (q:Int)) hS0 ?_ ?_
 ·(intro w' hSw;go_simp;exact EQ.out)
 simp only [Act.put,yB,yC,yD]
 refine yT 3 (some 13) (.int .u8 (d1:Int)) hS0 ?_ ?_
 ·(intro w' hSw;have rr:=RQ.out w';go_simp;try with_reducible rfl)
 simp only [Act.put,yB,yC,yD]
 refine yT 4 (some 14) ?_ hS0 ?_ ?_
 rotate_left
 ·(intro w' hSw;go_simp;try with_reducible rfl)
 simp only [Act.put,yB,yC,yD]
 refine yT 5 (some 15) (.int .u8 (r:Int)) hS0 ?_ ?_
 ·(intro w' hSw;go_simp;exact ER.out)
 simp only [Act.put,yB,yC,yD]
 refine yT 6 (some 16) (.int .u8 (d2:Int)) hS0 ?_ ?_
 ·(intro w' hSw;have rr:=RR.out w';go_simp;try with_reducible rfl)
 simp only [Act.put,yB,yC,yD]
 refine wpAnyT_one 7 rfl (by kernel_rfl) rfl ?_
 intro K hK
 obtain ⟨g,hg⟩:∃ g,g=wA.heap.size:=⟨_,rfl⟩
 obtain ⟨wB,hwB⟩:∃ y,y=wA.alloc (.cells #[.int .u8 (d1:Int),.int .u8 (d2:Int)] 5):=⟨_,rfl⟩
 have HGB:=zh (show wB.heap[g]? = some (.cells #[.int .u8 (d1:Int),.int .u8 (d2:Int)] 5 (0,0)) by rw [hwB,hg];exact heap_alloc_new _ _)
 have HMB:=zh (show Mod No wA wB by rw [hwB];exact (Mod.refl No wA).alloc _)
 have HOB:=zh (own_keepM HOA.out HMB.out (fun _ _ f=>f))
 have HBB:=zh (show base<=wB.heap.size from Nat.le_trans HBA.out HMB.out.size)
 have HWB:=zh hwB
 have HG:=zh hg
 clear hg hwB
 go_simp
 rw [<- HG.out,<- HWB.out]
 show K _ _
 have hS1:=trivial
 refine hK.out _ _ (fun _=>hS1) ?_
 clear hK K
 refine wpAnyT_one 8 rfl (by kernel_rfl) rfl ?_
 intro K hK
 refine wp_app_sl _ (.tmp 10) (.tmp 17) 41 (by rfl) base 5 i0 (.int .u8 0) 1 1 underlying41 hi0 hz0 hz1 hz2 rfl (by decide) v n _ (by rfl) HOB.out No 5 (.slice (some ⟨g,0,none⟩) 2 2) 2 [.int .u8 (d1:Int),.int .u8 (d2:Int)] (by rfl) (.inr ⟨g,0,2,_,_,rfl,Nat.le_refl _,by unfold maxLen;omega,fun f=>f,HGB.out,by simp,fun i hi=>by match i,hi with | 0,_=>rfl | 1,_=>rfl | k+2,h=>exact absurd h (by simp)⟩) rfl (by simp [Value.oneCell']) (by unfold maxLen;omega) (by omega) HBB.out ?_
 intro v5 w5 hown hg5 _
 show K (Act.put _ (some 18) v5) w5
 have HO5:=zh hown
 have HM5:=zh (show Mod (fun p=>base<=p) wA w5 from (HMB.out.weaken fun _ _ f=>f.elim:Mod (fun p=>base<=p) wA wB).trans (Mod.of_grown hg5 (fun k e _=>(HOB.out.lt _ e).1)))
 have HB5:=zh (show base<=w5.heap.size from Nat.le_trans HBB.out hg5.size)
 clear hown hg5
 show K _ _
 have hS2:=trivial
 refine hK.out _ _ (fun _=>hS2) ?_
 clear hK K
 refine yT 9 (some 3) ?_ hS2 ?_ ?_
 rotate_left
 ·(intro w' hSw;go_simp;try with_reducible rfl)
 simp only [Act.put]
 refine wpAnyT_done (by kernel_rfl) ?_ _
 go_wp2_with fail
 exact Met.intro (HJ.out _ _ ⟨⟨_,⟨rfl,rfl,rfl,rfl,rfl,trivial⟩,by rw [HTT.out];exact HO5.out⟩,HB5.out,(HMA.out.weaken fun _ _ f=>f.elim:Mod (fun p=>base<=p) w wA).trans HM5.out⟩)
def LpH (w0:World) (S:List UInt8) (base:Nat) (k:Nat) (a:Act) (w:World):Prop :=
 ∃ i n v,i+k=32/\n=2*i/\base<=w.heap.size/\w.ownsRow base 5 1 v n (bv (hexL (S.take i)))/\Mod (fun p=>base<=p) w0 w/\Fr 22 [(3,v),(6,keyV S),(7,.int .i64 (i:Int))] a
set_option maxRecDepth 100000 in
set_option maxHeartbeats 4000000 in
theorem hexloop_any (S:List UInt8) (hS:S.length=32) (base:Nat) (v:Value) (f:Act) (w:World) (hb:base<=w.heap.size) (hown:w.ownsRow base 5 1 v 0 [])
  (hF:Fr 22 [(3,v),(6,keyV S),(7,.int .i64 0)] f) :
  Code.wp prog blkH0 (Exit.then (fun a' w'=>(∃ v',Fr 22 [(3,v')] a'/\w'.ownsRow base 5 1 v' (hexL S).length (bv (hexL S)))/\Mod (fun p=>base<=p) w w') Nope) f w:=by
 refine wp_part fun J K' hJ hK=>?_
 have H0:=zh (show LpH w S base 32 f w from ⟨0,0,v,rfl,rfl,hb,hown,Mod.refl _ w,hF⟩)
 have HJ:=zh hJ
 obtain ⟨w0,hw0⟩:∃ w0,w0=w:=⟨_,rfl⟩
 rw [<- hw0] at HJ H0
 clear hF hJ hb hown
 conv=>arg 2;whnf
 go_step
 refine wp_loop_ghost_k (LpH w0 S base) 32 (by rw [hw0] at H0 ⊢;exact H0.out) ?_
 clear H0 hw0 f w v
 intro k f w hI J2 K2 hJ2 hK2
 have HJ2:=zh hJ2
 obtain ⟨i,n,v,hik,hn,hb,hown,hmod,hF⟩:=hI
 have HO:=zh hown
 have HM:=zh hmod
 have HB:=zh hb
 have HN:=zh hn
 clear hJ2 hown hmod hb hn
 obtain ⟨ts,ds⟩:=f
 obtain ⟨hsz,hds,hs3,hs6,hs7,-⟩:=hF
 dsimp only at hsz hds hs3 hs6 hs7
 subst hds
 obtain ⟨c,rfl,hc⟩:=lit22 ts hsz
 rw [hc] at hs3
 rw [hc] at hs6
 rw [hc] at hs7
 simp only [hs3,hs6,hs7]
 clear hc hsz hs3 hs6 hs7
 have hi0:(0:Int)<=(i:Int):=Int.natCast_nonneg _
 by_cases hi:i < 32
 ·have hi64:(i:Int) < 32:=by omega
  go_upto_block 1 with fail
  rename_i K5 hK5
  refine wp_only (hexstep_any S hS base i n v _ w hi HN.out HB.out HO.out ⟨rfl,rfl,rfl,rfl,rfl,trivial⟩) ?_
  rintro a2 w2 ⟨⟨v2,hF,hown2⟩,hb2,hm2⟩
  have HM2:=zh (HM.out.trans hm2)
  have HO2:=zh hown2
  have HB2:=zh hb2
  clear hown2 hb2 hm2 HO HB
  refine hK5 _ _ ?_
  obtain ⟨ts,ds⟩:=a2
  obtain ⟨hsz,hds,hs3,hs6,hs7,-⟩:=hF
  dsimp only at hsz hds hs3 hs6 hs7
  subst hds
  obtain ⟨c,rfl,hc⟩:=lit22 ts hsz
  rw [hc] at hs3
  rw [hc] at hs6
  rw [hc] at hs7
  simp only [hs3,hs6,hs7]
  clear hc hsz hs3 hs6 hs7
  clear hK5 K5
  go_wp2_with fail
  exact Handed.intro (k - 1) (by omega) (HJ2.out _ _ _ ⟨i+1,n+2,v2,by omega,by have:=HN.out;omega,HB2.out,HO2.out,HM2.out,rfl,rfl,rfl,rfl,by go_num,trivial⟩)
 ·have hi64:i=32:=by omega
  subst hi64
  have HF:=zh (show w.ownsRow base 5 1 v (hexL S).length (bv (hexL S)) by
   have h1:=HO.out
   rw [List.take_of_length_le (by omega)] at h1
   rw [hexL_length,hS]
   rw [HN.out] at h1
   exact h1)
  go_wp2_with fail
  exact Met.intro (HJ.out _ _ ⟨⟨_,⟨rfl,rfl,rfl,trivial⟩,HF.out⟩,HM.out⟩)
set_option maxRecDepth 100000 in
set_option maxHeartbeats 4000000 in
theorem hex_any (S:List UInt8) (hS:S.length=32) (w:World) :
  Calls prog 53 #[keyV S] w fun e w'=>e=.returned (.string ⟨(hexL S).toArray⟩)/\Mod No w w':=by
 refine calls_hide fun R hR=>?_
 go_enter func53,ntmps53
 go_upto_region 1 with fail
 obtain ⟨g,hg⟩:∃ g,g=w.heap.size:=⟨_,rfl⟩
 obtain ⟨w1,hw1⟩:∃ y,y=w.alloc (.cells (bv S).toArray 47):=⟨_,rfl⟩
 rw [<- hg,<- hw1]
 have HM1:=zh (show Mod No w w1 by rw [hw1];exact (Mod.refl No w).alloc _)
 have hk:w1.heap[g]? = some (.cells (bv S).toArray 47 (0,0)):=by rw [hw1,hg];exact heap_alloc_new w _
 clear hw1 hg
 go_upto_region 2 with fail
 rename_i K2 hK2
 refine wp_region_lit ?_
 refine wpList_load_row rfl 47 _ rfl g rfl 47 (bv S).toArray (0,0) _ hk underlying47 rfl (key_size hS) ?_
 go_upto_block 0 with fail
 rename_i K5 hK5
 refine wp_only (hexloop_any S hS w1.heap.size (.slice none 0 0) _ w1 (Nat.le_refl _) (World.ownsRow_nil _ _ _ _) ⟨rfl,rfl,rfl,rfl,rfl,trivial⟩) ?_
 rintro a2 w2 ⟨⟨v2,hF,hown2⟩,hm2⟩
 have HM2:=zh (HM1.out.then hm2 (S:=No) (fun i hi e=>by have e:w1.heap.size<=i:=e;have:=HM1.out.size;omega))
 have hcv:=string_of (P:=prog) (Sl.of_own hown2 (X:=No) (fun _ _ f=>f)) underlying41 underlying5 underlying9
 refine hK5 _ _ ?_
 clear hm2 hown2 hK5 K5
 obtain ⟨ts,ds⟩:=a2
 obtain ⟨hsz,hds,hs3,-⟩:=hF
 dsimp only at hsz hds hs3
 subst hds
 obtain ⟨c,rfl,hc⟩:=lit22 ts hsz
 rw [hc] at hs3
 simp only [hs3]
 clear hc hsz hs3
 go_wp2_with fail
 exact fin hR ⟨rfl,HM2.out⟩
set_option maxRecDepth 100000 in
set_option maxHeartbeats 4000000 in
theorem indexbyte_any (n:Nat) (hn:n < 16) (w:World) :
  Calls prog 151 #[.string ⟨#[48,49,50,51,52,53,54,55,56,57,97,98,99,100,101,102]⟩,.int .u8 ((digit n).toNat:Int)] w fun e w'=>e=.returned (.int .i64 (n:Int))/\Mod No w w':=by
 refine calls_hide fun R hR=>?_
 have HF:=zh (show firstIdx ⟨#[48,49,50,51,52,53,54,55,56,57,97,98,99,100,101,102]⟩ ((digit n).toNat:Int).toNat.toUInt8=(n:Int) by
  match n,hn with
  | 0,_=>decide +kernel
  | 1,_=>decide +kernel
  | 2,_=>decide +kernel
  | 3,_=>decide +kernel
  | 4,_=>decide +kernel
  | 5,_=>decide +kernel
  | 6,_=>decide +kernel
  | 7,_=>decide +kernel
  | 8,_=>decide +kernel
  | 9,_=>decide +kernel
  | 10,_=>decide +kernel
  | 11,_=>decide +kernel
  | 12,_=>decide +kernel
  | 13,_=>decide +kernel
  | 14,_=>decide +kernel
  | 15,_=>decide +kernel
  | k+16,h=>exact absurd h (by omega))
 have HI:=zh (fun W=>run_indexByte_string (P:=prog) ⟨#[48,49,50,51,52,53,54,55,56,57,97,98,99,100,101,102]⟩ ((digit n).toNat:Int) W)
 rw [HF.out] at HI
 generalize ((digit n).toNat:Int)=d at *
 have HC:∀ W,Calls prog 204 #[.string ⟨#[48,49,50,51,52,53,54,55,56,57,97,98,99,100,101,102]⟩,.int .u8 d] W fun e w'=>e=.returned (.int .i64 (n:Int))/\w'=W:=fun W=>by
  clear hR R
  refine calls_hide fun R2 hR2=>?_
  have hi:Sem.run prog (callFunc 256 #[.string ⟨#[48,49,50,51,52,53,54,55,56,57,97,98,99,100,101,102]⟩,.int .u8 d]) W=.ok (.value (.int .i64 (n:Int))) W:=by
   rw [run_callFunc_extern func256 (by kernel_rfl) (by kernel_rfl) (by kernel_rfl) (e:=Extern.BytealgIndexByte.indexByte) (by kernel_rfl),HI.out W];rfl
  go_enter func204,ntmps204
  go_wp2_with fail
  exact fin hR2 ⟨rfl,rfl⟩
 clear HI
 go_enter func151,ntmps151
 go_wp2_with fail
 refine (HC w).mono ?_
 rintro e w1 ⟨rfl,rfl⟩
 go_wp2_with fail
 exact fin hR ⟨rfl,Mod.refl _ _⟩
set_option maxRecDepth 100000 in
theorem lit36 (t:Array Value) (h:t.size=36):∃ c:Nat->Value,t=#[c 0,c 1,c 2,c 3,c 4,c 5,c 6,c 7,c 8,c 9,c 10,c 11,c 12,c 13,c 14,c 15,c 16,c 17,c 18,c 19,c 20,c 21,c 22,c 23,c 24,c 25,c 26,c 27,c 28,c 29,c 30,c 31,c 32,c 33,c 34,c 35]/\∀ i,t.getD i undef=c i:=by
 refine ⟨fun i=>t.getD i undef,?_,fun _=>rfl⟩
 have h1:=arr_lits t
 rw [h] at h1
 exact h1.trans (by kernel_rfl)
def nib (S:List UInt8) (i:Nat):Nat:=if i % 2=0 then (S.getD (i / 2) 0).toNat / 16 else (S.getD (i / 2) 0).toNat % 16
def nibO (S:List UInt8) (i:Nat):Nat:=if i % 2=0 then 0 else (S.getD (i / 2) 0).toNat / 16
def keyN (S:List UInt8) (i:Nat):List UInt8:=(List.range 32).map fun j=>if 2*j+2<=i then S.getD j 0 else if 2*j+1=i then UInt8.ofNat ((S.getD j 0).toNat / 16) else 0
theorem nib_lt (S:List UInt8) (i:Nat):nib S i < 16:=by
 unfold nib
 have:=UInt8.toNat_lt (S.getD (i / 2) 0)
 split <;> omega
theorem nibO_lt (S:List UInt8) (i:Nat):nibO S i < 16:=by
 unfold nibO
 have:=UInt8.toNat_lt (S.getD (i / 2) 0)
 split <;> omega
theorem hexL_get:∀ (S:List UInt8) (i:Nat),i < 2*S.length->(hexL S)[i]? = some (digit (nib S i))
 | [],i,h=>absurd h (by simp)
 | c :: S,0,_=>rfl
 | c :: S,1,_=>rfl
 | c :: S,i+2,h=>by
  have ih:=hexL_get S i (by simp at h;omega)
  have e1:hexL (c :: S)=digit (c.toNat / 16) :: digit (c.toNat % 16) :: hexL S:=rfl
  have e2:nib (c :: S) (i+2)=nib S i:=by
   unfold nib
   rw [show (i+2) % 2=i % 2 by omega,show (i+2) / 2=i / 2+1 by omega]
   rfl
  rw [e1,e2]
  exact ih
theorem keyN_full {S:List UInt8} (hS:S.length=32):keyN S 64=S:=by
 apply List.ext_getElem?
 intro j
 unfold keyN
 rw [List.getElem?_map]
 by_cases hj:j < 32
 ·rw [List.getElem?_range hj,List.getElem?_eq_getElem (by omega)]
  simp only [Option.map_some]
  rw [if_pos (by omega),List.getD_eq_getElem?_getD,List.getElem?_eq_getElem (by omega)];rfl
 ·rw [List.getElem?_eq_none (by simp;omega),List.getElem?_eq_none (by omega)];rfl
theorem keyN_length (S:List UInt8) (i:Nat):(keyN S i).length=32:=by simp [keyN]
theorem keyN_get (S:List UInt8) {i:Nat} (hi:i < 64):(bv (keyN S i)).toArray[i / 2]? = some (.int .u8 (nibO S i:Int)):=by
 rw [List.getElem?_toArray]
 unfold keyN bv
 rw [List.getElem?_map,List.getElem?_map,List.getElem?_range (by omega)]
 simp only [Option.map_some]
 rw [if_neg (by omega)]
 unfold nibO
 have:=UInt8.toNat_lt (S.getD (i / 2) 0)
 by_cases h:i % 2=0
 ·rw [if_neg (by omega),if_pos h];rfl
 ·rw [if_pos (by omega),if_neg h,UInt8.toNat_ofNat']
  congr 2
  omega
theorem keyN_set (S:List UInt8) {i:Nat} (hi:i < 64):(bv (keyN S i)).toArray.setIfInBounds (i / 2) (.int .u8 ((nibO S i*16+nib S i:Nat):Int))=(bv (keyN S (i+1))).toArray:=by
 rw [List.setIfInBounds_toArray]
 congr 1
 apply List.ext_getElem?
 intro j
 have hlt:=UInt8.toNat_lt (S.getD (i / 2) 0)
 by_cases hj:i / 2=j
 ·subst hj
  rw [List.getElem?_set_self (by rw [bv_length,keyN_length];omega)]
  unfold keyN bv
  rw [List.getElem?_map,List.getElem?_map,List.getElem?_range (by omega)]
  simp only [Option.map_some]
  unfold nibO nib
  by_cases h:i % 2=0
  ·rw [if_pos h,if_pos h,if_neg (by omega),if_pos (by omega),UInt8.toNat_ofNat']
   congr 3
   omega
  ·rw [if_neg h,if_neg h,if_pos (by omega)]
   congr 3
   omega
 ·rw [List.getElem?_set_ne hj]
  unfold keyN bv
  rw [List.getElem?_map,List.getElem?_map,List.getElem?_map,List.getElem?_map]
  by_cases h32:j < 32
  ·rw [List.getElem?_range h32]
   simp only [Option.map_some]
   congr 3
   by_cases h2:2*j+2<=i
   ·rw [if_pos h2,if_pos (by omega)]
   ·rw [if_neg h2,if_neg (by omega),if_neg (by omega),if_neg (by omega)]
  ·rw [List.getElem?_eq_none (by simp;omega)];rfl
theorem or_nib (a b:Nat) (ha:a < 16) (hb:b < 16):bits .or .u8 ((a:Int)*16) (b:Int)=((a*16+b:Nat):Int):=by
 have h1:(BitVec.ofInt 8 ((a:Int)*16)).toNat=a*16:=by
  rw [show (a:Int)*16=((a*16:Nat):Int) by omega,BitVec.ofInt_natCast,BitVec.toNat_ofNat];exact Nat.mod_eq_of_lt (by omega)
 have h2:(BitVec.ofInt 8 (b:Int)).toNat=b:=by rw [BitVec.ofInt_natCast,BitVec.toNat_ofNat];exact Nat.mod_eq_of_lt (by omega)
 have e:2 ^ 4*a+b=2 ^ 4*a ||| b:=Nat.two_pow_add_eq_or_of_lt (by omega) a
 show IntKind.u8.wrap ((BitVec.ofInt 8 ((a:Int)*16) ||| BitVec.ofInt 8 (b:Int)).toNat:Int)=_
 rw [BitVec.toNat_or,h1,h2,show a*16=2 ^ 4*a by omega,<- e,IntKind.wrap_u8]
 omega
noncomputable def bodyQ:Code:=Tryz.f91.body.getD .skip
noncomputable def blkQ0:Code:=(blockAt 0 bodyQ).getD .skip
def LpQ (w0:World) (S:List UInt8) (Z:ByteArray) (v2:Value) (kb:Nat) (k:Nat) (a:Act) (w:World):Prop :=
 ∃ i,i+k=64/\Mod (fun p=>p=kb) w0 w/\w.heap[kb]? = some (.cells (bv (keyN S i)).toArray 47 (0,0))/\Fr 36 [(0,.string Z),(2,v2),(3,.bool false),(4,.pointer (some ⟨kb,0,none⟩)),(12,.int .i64 64),(13,.int .i64 (i:Int))] a
set_option maxRecDepth 100000 in
set_option maxHeartbeats 4000000 in
theorem parseloop_any (S:List UInt8) (Z:ByteArray) (v2:Value) (kb:Nat) (f:Act) (w:World)
  (hz:∀ i:Nat,i < 64->∀ W,(Instr.index 9 (.string Z) (.int .i64 (i:Int))).run prog W=.ok (.int .u8 ((digit (nib S i)).toNat:Int)) W)
  (hk:w.heap[kb]? = some (.cells (bv (keyN S 0)).toArray 47 (0,0)))
  (hF:Fr 36 [(0,.string Z),(2,v2),(3,.bool false),(4,.pointer (some ⟨kb,0,none⟩)),(12,.int .i64 64),(13,.int .i64 0)] f) :
  Code.wp prog blkQ0 (Exit.then (fun a' w'=>Fr 36 [(2,v2),(4,.pointer (some ⟨kb,0,none⟩))] a'/\w'.heap[kb]? = some (.cells (bv (keyN S 64)).toArray 47 (0,0))/\Mod (fun p=>p=kb) w w') Nope) f w:=by
 refine wp_part fun J K' hJ hK=>?_
 have H0:=zh (show LpQ w S Z v2 kb 64 f w from ⟨0,rfl,Mod.refl _ w,hk,hF⟩)
 have HJ:=zh hJ
 have HZ:=zh hz
 obtain ⟨w0,hw0⟩:∃ w0,w0=w:=⟨_,rfl⟩
 rw [<- hw0] at HJ H0
 clear hF hJ hk hz
 conv=>arg 2;whnf
 go_step
 refine wp_loop_ghost_k (LpQ w0 S Z v2 kb) 64 (by rw [hw0] at H0 ⊢;exact H0.out) ?_
 clear H0 hw0 f w
 intro k f w hI J2 K2 hJ2 hK2
 have HJ2:=zh hJ2
 obtain ⟨i,hik,hmod,hk,hF⟩:=hI
 have HM:=zh hmod
 have HK:=zh hk
 clear hJ2 hmod hk
 obtain ⟨ts,ds⟩:=f
 obtain ⟨hsz,hds,hs0,hs2,hs3,hs4,hs12,hs13,-⟩:=hF
 dsimp only at hsz hds hs0 hs2 hs3 hs4 hs12 hs13
 subst hds
 obtain ⟨c,rfl,hc⟩:=lit36 ts hsz
 rw [hc] at hs0
 rw [hc] at hs2
 rw [hc] at hs3
 rw [hc] at hs4
 rw [hc] at hs12
 rw [hc] at hs13
 simp only [hs0,hs2,hs3,hs4,hs12,hs13]
 clear hc hsz hs0 hs2 hs3 hs4 hs12 hs13
 have hi0:(0:Int)<=(i:Int):=Int.natCast_nonneg _
 by_cases hi:i < 64
 ·have hi64:(i:Int) < 64:=by omega
  have c0:=cell_ofA HK.out (keyN_get S hi)
  have f0:=frozen_of (i / 2) HK.out
  have HST:=zh (keyN_set S hi)
  have hidx:=HZ.out i hi
  have HOR:=zh (or_nib (nibO S i) (nib S i) (nibO_lt S i) (nib_lt S i))
  have HIB:=zh (indexbyte_any (nib S i) (nib_lt S i))
  have hb15:=nib_lt S i
  have ho15:=nibO_lt S i
  generalize nib S i=b at *
  generalize nibO S i=o at *
  generalize hdg:((digit b).toNat:Int)=dg at *
  obtain ⟨j,hj⟩:∃ j,j=i / 2:=⟨_,rfl⟩
  rw [<- hj] at c0 f0 HST
  have q1:(i:Int) / 2=(j:Int):=by omega
  have q1':Int.tdiv (i:Int) 2=(j:Int):=by rw [Int.tdiv_eq_ediv_of_nonneg hi0];exact q1
  have j0:(0:Int)<=(j:Int):=Int.natCast_nonneg _
  have j1:(j:Int) < 32:=by omega
  have b0:(0:Int)<=(b:Int):=Int.natCast_nonneg _
  have b1:(b:Int) < 16:=by omega
  have o0:(0:Int)<=(o:Int):=Int.natCast_nonneg _
  have o1:(o:Int) < 16:=by omega
  have C0:=zh (And.intro c0 f0)
  clear hj hdg c0 f0
  go_wp2_with fail
  with_reducible refine (HIB.out _).mono ?_
  rintro e w2 ⟨rfl,hm2⟩
  have c0:=hm2.cell C0.out.1 (fun f=>f)
  have HK2:=zh (hm2.keep HK.out (fun f=>f))
  have f0:=frozen_of j HK2.out
  have HM2:=zh (HM.out.then hm2 (fun i hi f=>f.elim))
  clear hm2 HIB
  go_wp2_with fail
  rw [HOR.out]
  exact Handed.intro (k - 1) (by omega) (HJ2.out _ _ _ ⟨i+1,by omega,HM2.out.setCell (fun _=>rfl) _,by rw [heap_setCell HK2.out,HST.out],rfl,rfl,rfl,rfl,rfl,rfl,rfl,by go_num,trivial⟩)
 ·have hi8:i=64:=by omega
  subst hi8
  go_wp2_with fail
  exact Met.intro (HJ.out _ _ ⟨⟨rfl,rfl,rfl,rfl,trivial⟩,HK.out,HM.out⟩)
theorem hexidx {S:List UInt8} (hS:S.length=32) (i:Nat) (hi:i < 64) (W:World):(Instr.index 9 (.string ⟨(hexL S).toArray⟩) (.int .i64 (i:Int))).run prog W=.ok (.int .u8 ((digit (nib S i)).toNat:Int)) W:=by
 have hl:(hexL S).length=64:=by rw [hexL_length,hS]
 have hsz:(⟨(hexL S).toArray⟩:ByteArray).size=64:=by rw [str_len3,hl]
 have hi2:(0:Int)<=(i:Int)/\(i:Int) < ((⟨(hexL S).toArray⟩:ByteArray).size:Int):=by rw [hsz];omega
 rw [run_index_string W 9 _ .i64 i underlying9,dif_pos hi2]
 have h1:=hexL_get S i (by omega)
 have h2:(⟨(hexL S).toArray⟩:ByteArray)[(i:Int).toNat]'(by rw [hsz];omega)=digit (nib S i):=by
  show (hexL S).toArray[i]'(by simp;omega)=_
  rw [List.getElem_toArray]
  rw [List.getElem?_eq_getElem (by omega)] at h1
  exact Option.some.inj h1
 rw [h2]
set_option maxRecDepth 100000 in
set_option maxHeartbeats 4000000 in
theorem parse_any (S:List UInt8) (hS:S.length=32) (w:World) :
  Calls prog 91 #[.string ⟨(hexL S).toArray⟩] w fun e w'=>e=.returned (.tuple #[keyV S,.bool true])/\Mod No w w':=by
 refine calls_hide fun R hR=>?_
 have hsz:(⟨(hexL S).toArray⟩:ByteArray).size=64:=by rw [str_len3,hexL_length,hS]
 have HX:=zh (hexidx hS)
 generalize (⟨(hexL S).toArray⟩:ByteArray)=Z at *
 go_enter func91,ntmps91
 go_upto_region 1 with fail
 obtain ⟨rb,hrb⟩:∃ g,g=w.heap.size:=⟨_,rfl⟩
 rw [<- hrb]
 generalize hw1:World.alloc w _=w1
 have HM1:=zh (show Mod No w w1 by rw [<- hw1];exact (Mod.refl No w).alloc _)
 have HR1:=zh (show w1.heap[rb]? = some (.cells (bv (keyN S 0)).toArray 47 (0,0)) by rw [<- hw1,hrb];exact heap_alloc_new w _)
 have HRB:=zh hrb
 clear hw1 hrb
 go_upto_region 2 with fail
 obtain ⟨kb,hkb⟩:∃ g,g=w1.heap.size:=⟨_,rfl⟩
 rw [<- hkb]
 generalize hw2:World.alloc w1 _=w2
 have HM2:=zh (show Mod No w1 w2 by rw [<- hw2];exact (Mod.refl No w1).alloc _)
 have HK2:=zh (show w2.heap[kb]? = some (.cells (bv (keyN S 0)).toArray 47 (0,0)) by rw [<- hw2,hkb];exact heap_alloc_new w1 _)
 have HKB:=zh hkb
 clear hw2 hkb
 go_upto_block 0 with fail
 rename_i K5 hK5
 refine wp_only (parseloop_any S Z _ kb _ w2 HX.out HK2.out ⟨rfl,rfl,rfl,rfl,rfl,rfl,rfl,rfl,trivial⟩) ?_
 rintro a3 w3 ⟨hF,hk3,hm3⟩
 have hr3:=hm3.keep (HM2.out.keep HR1.out (fun f=>f)) (fun e=>by have:=lt_of_heap HR1.out;have:=HKB.out;omega)
 have hmm:=HM1.out.then (HM2.out.then hm3 (S:=No) (fun i hi e=>absurd hi (by have:=HKB.out;omega))) (fun i hi f=>f)
 rw [keyN_full hS] at hk3
 refine hK5 _ _ ?_
 clear hm3 hK5 K5
 obtain ⟨ts,ds⟩:=a3
 obtain ⟨hsz,hds,hs2,hs4,-⟩:=hF
 dsimp only at hsz hds hs2 hs4
 subst hds
 obtain ⟨c,rfl,hc⟩:=lit36 ts hsz
 rw [hc] at hs2
 rw [hc] at hs4
 simp only [hs2,hs4]
 clear hc hsz hs2 hs4
 go_upto_region 12 with fail
 rename_i K7 hK7
 refine wp_region_lit ?_
 refine wpList_load_row rfl 47 _ rfl kb rfl 47 (bv S).toArray (0,0) _ hk3 underlying47 rfl (key_size hS) ?_
 refine wpList_store_row rfl 47 _ _ rfl rb (bv S).toArray rfl rfl 47 _ hr3 (key_size hS) (by simp [keyN_length,hS]) (by simp [bv,Value.oneCell']) ?_
 go_wp2_with fail
 have hr4:(w3.setRow rb (bv S).toArray).heap[rb]? = some (.cells (bv S).toArray 47 (0,0)):=setRow_heap _ _ _ _ _ _ hr3
 have hmm4:=zh (hmm.setRow (fun h=>by have:=HRB.out;omega) (bv S).toArray:Mod No w (w3.setRow rb (bv S).toArray))
 generalize w3.setRow rb (bv S).toArray=w4 at *
 have hl:=run_loadVar_row (P:=prog) w4 rb 47 47 (bv S).toArray (0,0) _ hr4 underlying47 rfl (key_size hS)
 exact bodyPost_ret (v:=.tuple #[keyV S,.bool true]) (by simp [results,results91,asAddr,hl]) rfl (fin hR ⟨rfl,hmm4.out⟩)
set_option maxRecDepth 100000 in
theorem rotl_any (x:Int) (n m:Nat) (k:Int) (hn:n < 32) (hm:m=32 - n) (h0:0 < n) (hk:bits .and .u64 (IntKind.u64.wrap k) 31=(m:Int)) (w:World) :
  Calls prog 173 #[.int .u32 x,.int .i64 k] w fun e w'=>e=.returned (.int .u32 (rotR n x))/\Mod No w w':=by
 refine calls_hide fun R hR=>?_
 have hm0:(0:Int)<=(m:Int):=Int.natCast_nonneg _
 have hm1:(m:Int) < 32:=by omega
 have hn0:(0:Int)<=(n:Int):=Int.natCast_nonneg _
 have hn1:(n:Int) < 32:=by omega
 have hmI:(32:Int) - (m:Int)=(n:Int):=by omega
 have HE:=zh (show rotR n x=bits .or .u32 (x*2 ^ m % 4294967296) (x / 2 ^ n) by unfold rotR;rw [hm,bits_or_comm])
 clear hm
 go_enter func173,ntmps173
 go_wp2_with fail
 exact fin hR ⟨by rw [HE.out];rfl,Mod.refl _ _⟩
set_option maxRecDepth 100000 in
theorem lit196 (t:Array Value) (h:t.size=196):∃ c:Nat->Value,t=#[c 0,c 1,c 2,c 3,c 4,c 5,c 6,c 7,c 8,c 9,c 10,c 11,c 12,c 13,c 14,c 15,c 16,c 17,c 18,c 19,c 20,c 21,c 22,c 23,c 24,c 25,c 26,c 27,c 28,c 29,c 30,c 31,c 32,c 33,c 34,c 35,c 36,c 37,c 38,c 39,c 40,c 41,c 42,c 43,c 44,c 45,c 46,c 47,c 48,c 49,c 50,c 51,c 52,c 53,c 54,c 55,c 56,c 57,c 58,c 59,c 60,c 61,c 62,c 63,c 64,c 65,c 66,c 67,c 68,c 69,c 70,c 71,c 72,c 73,c 74,c 75,c 76,c 77,c 78,c 79,c 80,c 81,c 82,c 83,c 84,c 85,c 86,c 87,c 88,c 89,c 90,c 91,c 92,c 93,c 94,c 95,c 96,c 97,c 98,c 99,c 100,c 101,c 102,c 103,c 104,c 105,c 106,c 107,c 108,c 109,c 110,c 111,c 112,c 113,c 114,c 115,c 116,c 117,c 118,c 119,c 120,c 121,c 122,c 123,c 124,c 125,c 126,c 127,c 128,c 129,c 130,c 131,c 132,c 133,c 134,c 135,c 136,c 137,c 138,c 139,c 140,c 141,c 142,c 143,c 144,c 145,c 146,c 147,c 148,c 149,c 150,c 151,c 152,c 153,c 154,c 155,c 156,c 157,c 158,c 159,c 160,c 161,c 162,c 163,c 164,c 165,c 166,c 167,c 168,c 169,c 170,c 171,c 172,c 173,c 174,c 175,c 176,c 177,c 178,c 179,c 180,c 181,c 182,c 183,c 184,c 185,c 186,c 187,c 188,c 189,c 190,c 191,c 192,c 193,c 194,c 195]/\∀ i,t.getD i undef=c i:=by
 refine ⟨fun i=>t.getD i undef,?_,fun _=>rfl⟩
 have h1:=arr_lits t
 rw [h] at h1
 exact h1.trans (by kernel_rfl)
noncomputable def bodyT:Code:=Tryz.f116.body.getD .skip
noncomputable def blkT1:Code:=(blockAt 1 bodyT).getD .skip
noncomputable def blkT3:Code:=(blockAt 3 bodyT).getD .skip
noncomputable def blkT5:Code:=(blockAt 5 bodyT).getD .skip
set_option maxRecDepth 100000 in
set_option maxHeartbeats 4000000 in
theorem word_lo (bb bo bn bc g i:Nat) (v0:Value) (y0 y1 y2 y3:Int) (ws:List Int) (a:Act) (w:World) (hi:i < 16) (hn:64<=bn) (hws:ws.length=i) (hg:w.heap[g]? = some (.cells (wCells ws) 202 (0,0)))
  (h0:w.cell? ⟨bb,bo+(4*i+0),none⟩=some (.int .u8 y0)) (h1:w.cell? ⟨bb,bo+(4*i+1),none⟩=some (.int .u8 y1)) (h2:w.cell? ⟨bb,bo+(4*i+2),none⟩=some (.int .u8 y2)) (h3:w.cell? ⟨bb,bo+(4*i+3),none⟩=some (.int .u8 y3))
  (hF:Fr 196 [(0,v0),(1,.slice (some ⟨bb,bo,none⟩) bn bc),(4,.pointer (some ⟨g,0,none⟩)),(16,.int .i64 (i:Int))] a) :
  Code.wp prog blkT1 (Exit.then (fun a' w'=>Fr 196 [(0,v0),(1,.slice (some ⟨bb,bo,none⟩) bn bc),(4,.pointer (some ⟨g,0,none⟩)),(16,.int .i64 (i:Int))] a'/\w'.heap[g]? = some (.cells (wCells (ws++[be4 y0 y1 y2 y3])) 202 (0,0))/\Mod (fun q=>q=g) w w') Nope) a w:=by
 refine wp_part fun J K' hJ hK=>?_
 obtain ⟨ts,ds⟩:=a
 obtain ⟨hsz,hds,hs0,hs1,hs4,hs16,-⟩:=hF
 dsimp only at hsz hds hs0 hs1 hs4 hs16
 subst hds
 obtain ⟨c,rfl,hc⟩:=lit196 ts hsz
 rw [hc] at hs0
 rw [hc] at hs1
 rw [hc] at hs4
 rw [hc] at hs16
 simp only [hs0,hs1,hs4,hs16]
 clear hc hsz hs0 hs1 hs4 hs16
 have hi0:(0:Int)<=(i:Int):=Int.natCast_nonneg _
 have hi16:(i:Int) < 16:=by omega
 have hi64:(i:Int) < 64:=by omega
 have hn64:(64:Int)<=(bn:Int):=by omega
 have HG:=zh hg
 obtain ⟨j,hj⟩:∃ j,j=4*i:=⟨_,rfl⟩
 rw [<- hj] at h0 h1 h2 h3
 have hjI:(4:Int)*(i:Int)=(j:Int):=by omega
 have hjn:(j:Int)<=60:=by omega
 have hj0:(0:Int)<=(j:Int):=Int.natCast_nonneg _
 obtain ⟨j1,hj1⟩:∃ j1,j1=j+1:=⟨_,rfl⟩
 obtain ⟨j2,hj2⟩:∃ j2,j2=j+2:=⟨_,rfl⟩
 obtain ⟨j3,hj3⟩:∃ j3,j3=j+3:=⟨_,rfl⟩
 have EJ:=zh (show IntKind.i64.wrap (j:Int)=(j:Int) by rw [IntKind.wrap_i64];omega)
 have E1:=zh (show IntKind.i64.wrap ((j:Int)+1)=(j1:Int) by rw [IntKind.wrap_i64];omega)
 have E2:=zh (show IntKind.i64.wrap ((j:Int)+2)=(j2:Int) by rw [IntKind.wrap_i64];omega)
 have E3:=zh (show IntKind.i64.wrap ((j:Int)+3)=(j3:Int) by rw [IntKind.wrap_i64];omega)
 have b1:(j1:Int) < (bn:Int):=by omega
 have b2:(j2:Int) < (bn:Int):=by omega
 have b3:(j3:Int) < (bn:Int):=by omega
 have b0:(j:Int) < (bn:Int):=by omega
 have c1:(0:Int)<=(j1:Int):=Int.natCast_nonneg _
 have c2:(0:Int)<=(j2:Int):=Int.natCast_nonneg _
 have c3:(0:Int)<=(j3:Int):=Int.natCast_nonneg _
 rw [Nat.add_zero] at h0
 rw [<- hj1] at h1
 rw [<- hj2] at h2
 rw [<- hj3] at h3
 clear hj1 hj2 hj3
 have hS0:=And.intro h0 (And.intro h1 (And.intro h2 h3))
 clear hj hg
 conv=>arg 2;whnf
 go_upto_region 5 with fail
 refine wp_region_T (fun w'=>w'.cell? ⟨bb,bo+j,none⟩=some (.int .u8 y0)/\w'.cell? ⟨bb,bo+j1,none⟩=some (.int .u8 y1)/\w'.cell? ⟨bb,bo+j2,none⟩=some (.int .u8 y2)/\w'.cell? ⟨bb,bo+j3,none⟩=some (.int .u8 y3)) 35 (by kernel_rfl) ?_
 refine wpAnyT_take 0 (some 21) ?_ rfl rfl (by kernel_rfl) (fun _ _ _ h=>h) hS0 (Or.inl ⟨by rfl,?_⟩) ?_
 rotate_left
 ·(intro w' hSw;obtain ⟨s0,s1,s2,s3⟩:=hSw;go_simp;try with_reducible rfl)
 simp only [Act.put,yB,yC,yD]
 refine wpAnyT_take 1 (some 22) ?_ rfl rfl (by kernel_rfl) (fun _ _ _ h=>h) hS0 (Or.inl ⟨by rfl,?_⟩) ?_
 rotate_left
 ·(intro w' hSw;obtain ⟨s0,s1,s2,s3⟩:=hSw;go_simp;try with_reducible rfl)
 simp only [Act.put,yB,yC,yD]
 refine wpAnyT_take 2 (some 23) ?_ rfl rfl (by kernel_rfl) (fun _ _ _ h=>h) hS0 (Or.inl ⟨by rfl,?_⟩) ?_
 rotate_left
 ·(intro w' hSw;obtain ⟨s0,s1,s2,s3⟩:=hSw;go_simp;try with_reducible rfl)
 simp only [Act.put,yB,yC,yD]
 refine wpAnyT_take 3 (some 24) (.int .i64 (j:Int)) rfl rfl (by kernel_rfl) (fun _ _ _ h=>h) hS0 (Or.inl ⟨by rfl,?_⟩) ?_
 ·(intro w' hSw;obtain ⟨s0,s1,s2,s3⟩:=hSw;go_simp;exact EJ.out)
 simp only [Act.put,yB,yC,yD]
 refine wpAnyT_take 4 (some 25) ?_ rfl rfl (by kernel_rfl) (fun _ _ _ h=>h) hS0 (Or.inl ⟨by rfl,?_⟩) ?_
 rotate_left
 ·(intro w' hSw;obtain ⟨s0,s1,s2,s3⟩:=hSw;go_simp;try with_reducible rfl)
 simp only [Act.put,yB,yC,yD]
 refine wpAnyT_take 5 (some 26) ?_ rfl rfl (by kernel_rfl) (fun _ _ _ h=>h) hS0 (Or.inl ⟨by rfl,?_⟩) ?_
 rotate_left
 ·(intro w' hSw;obtain ⟨s0,s1,s2,s3⟩:=hSw;go_simp;try with_reducible rfl)
 simp only [Act.put,yB,yC,yD]
 refine wpAnyT_take 6 (some 27) ?_ rfl rfl (by kernel_rfl) (fun _ _ _ h=>h) hS0 (Or.inl ⟨by rfl,?_⟩) ?_
 rotate_left
 ·(intro w' hSw;obtain ⟨s0,s1,s2,s3⟩:=hSw;go_simp;try with_reducible rfl)
 simp only [Act.put,yB,yC,yD]
 refine wpAnyT_take 7 (some 28) ?_ rfl rfl (by kernel_rfl) (fun _ _ _ h=>h) hS0 (Or.inl ⟨by rfl,?_⟩) ?_
 rotate_left
 ·(intro w' hSw;obtain ⟨s0,s1,s2,s3⟩:=hSw;go_simp;try with_reducible rfl)
 simp only [Act.put,yB,yC,yD]
 refine wpAnyT_take 8 (some 29) ?_ rfl rfl (by kernel_rfl) (fun _ _ _ h=>h) hS0 (Or.inl ⟨by rfl,?_⟩) ?_
 rotate_left
 ·(intro w' hSw;obtain ⟨s0,s1,s2,s3⟩:=hSw;go_simp;try with_reducible rfl)
 simp only [Act.put,yB,yC,yD]
 refine wpAnyT_take 9 (some 30) ?_ rfl rfl (by kernel_rfl) (fun _ _ _ h=>h) hS0 (Or.inl ⟨by rfl,?_⟩) ?_
 rotate_left
 ·(intro w' hSw;obtain ⟨s0,s1,s2,s3⟩:=hSw;go_simp;try with_reducible rfl)
 simp only [Act.put,yB,yC,yD]
 refine wpAnyT_take 10 (some 31) (.int .i64 (j:Int)) rfl rfl (by kernel_rfl) (fun _ _ _ h=>h) hS0 (Or.inl ⟨by rfl,?_⟩) ?_
 ·(intro w' hSw;obtain ⟨s0,s1,s2,s3⟩:=hSw;go_simp;exact EJ.out)
 simp only [Act.put,yB,yC,yD]
 refine wpAnyT_take 11 (some 32) (.int .i64 (j1:Int)) rfl rfl (by kernel_rfl) (fun _ _ _ h=>h) hS0 (Or.inl ⟨by rfl,?_⟩) ?_
 ·(intro w' hSw;obtain ⟨s0,s1,s2,s3⟩:=hSw;go_simp;exact E1.out)
 simp only [Act.put,yB,yC,yD]
 refine wpAnyT_take 12 (some 33) ?_ rfl rfl (by kernel_rfl) (fun _ _ _ h=>h) hS0 (Or.inl ⟨by rfl,?_⟩) ?_
 rotate_left
 ·(intro w' hSw;obtain ⟨s0,s1,s2,s3⟩:=hSw;go_simp;try with_reducible rfl)
 simp only [Act.put,yB,yC,yD]
 refine wpAnyT_take 13 (some 34) ?_ rfl rfl (by kernel_rfl) (fun _ _ _ h=>h) hS0 (Or.inl ⟨by rfl,?_⟩) ?_
 rotate_left
 ·(intro w' hSw;obtain ⟨s0,s1,s2,s3⟩:=hSw;go_simp;try with_reducible rfl)
 simp only [Act.put,yB,yC,yD]
 refine wpAnyT_take 14 (some 35) ?_ rfl rfl (by kernel_rfl) (fun _ _ _ h=>h) hS0 (Or.inl ⟨by rfl,?_⟩) ?_
 rotate_left
 ·(intro w' hSw;obtain ⟨s0,s1,s2,s3⟩:=hSw;go_simp;try with_reducible rfl)
 simp only [Act.put,yB,yC,yD]
 refine wpAnyT_take 15 (some 36) ?_ rfl rfl (by kernel_rfl) (fun _ _ _ h=>h) hS0 (Or.inl ⟨by rfl,?_⟩) ?_
 rotate_left
 ·(intro w' hSw;obtain ⟨s0,s1,s2,s3⟩:=hSw;go_simp;try with_reducible rfl)
 simp only [Act.put,yB,yC,yD]
 refine wpAnyT_take 16 (some 37) ?_ rfl rfl (by kernel_rfl) (fun _ _ _ h=>h) hS0 (Or.inl ⟨by rfl,?_⟩) ?_
 rotate_left
 ·(intro w' hSw;obtain ⟨s0,s1,s2,s3⟩:=hSw;go_simp;try with_reducible rfl)
 simp only [Act.put,yB,yC,yD]
 refine wpAnyT_take 17 (some 38) ?_ rfl rfl (by kernel_rfl) (fun _ _ _ h=>h) hS0 (Or.inl ⟨by rfl,?_⟩) ?_
 rotate_left
 ·(intro w' hSw;obtain ⟨s0,s1,s2,s3⟩:=hSw;go_simp;try with_reducible rfl)
 simp only [Act.put,yB,yC,yD]
 refine wpAnyT_take 18 (some 39) ?_ rfl rfl (by kernel_rfl) (fun _ _ _ h=>h) hS0 (Or.inl ⟨by rfl,?_⟩) ?_
 rotate_left
 ·(intro w' hSw;obtain ⟨s0,s1,s2,s3⟩:=hSw;go_simp;try with_reducible rfl)
 simp only [Act.put,yB,yC,yD]
 refine wpAnyT_take 19 (some 40) (.int .i64 (j:Int)) rfl rfl (by kernel_rfl) (fun _ _ _ h=>h) hS0 (Or.inl ⟨by rfl,?_⟩) ?_
 ·(intro w' hSw;obtain ⟨s0,s1,s2,s3⟩:=hSw;go_simp;exact EJ.out)
 simp only [Act.put,yB,yC,yD]
 refine wpAnyT_take 20 (some 41) (.int .i64 (j2:Int)) rfl rfl (by kernel_rfl) (fun _ _ _ h=>h) hS0 (Or.inl ⟨by rfl,?_⟩) ?_
 ·(intro w' hSw;obtain ⟨s0,s1,s2,s3⟩:=hSw;go_simp;exact E2.out)
 simp only [Act.put,yB,yC,yD]
 refine wpAnyT_take 21 (some 42) ?_ rfl rfl (by kernel_rfl) (fun _ _ _ h=>h) hS0 (Or.inl ⟨by rfl,?_⟩) ?_
 rotate_left
 ·(intro w' hSw;obtain ⟨s0,s1,s2,s3⟩:=hSw;go_simp;try with_reducible rfl)
 simp only [Act.put,yB,yC,yD]
 refine wpAnyT_take 22 (some 43) ?_ rfl rfl (by kernel_rfl) (fun _ _ _ h=>h) hS0 (Or.inl ⟨by rfl,?_⟩) ?_
 rotate_left
 ·(intro w' hSw;obtain ⟨s0,s1,s2,s3⟩:=hSw;go_simp;try with_reducible rfl)
 simp only [Act.put,yB,yC,yD]
 refine wpAnyT_take 23 (some 44) ?_ rfl rfl (by kernel_rfl) (fun _ _ _ h=>h) hS0 (Or.inl ⟨by rfl,?_⟩) ?_
 rotate_left
 ·(intro w' hSw;obtain ⟨s0,s1,s2,s3⟩:=hSw;go_simp;try with_reducible rfl)
 simp only [Act.put,yB,yC,yD]
 refine wpAnyT_take 24 (some 45) ?_ rfl rfl (by kernel_rfl) (fun _ _ _ h=>h) hS0 (Or.inl ⟨by rfl,?_⟩) ?_
 rotate_left
 ·(intro w' hSw;obtain ⟨s0,s1,s2,s3⟩:=hSw;go_simp;try with_reducible rfl)
 simp only [Act.put,yB,yC,yD]
 refine wpAnyT_take 25 (some 46) ?_ rfl rfl (by kernel_rfl) (fun _ _ _ h=>h) hS0 (Or.inl ⟨by rfl,?_⟩) ?_
 rotate_left
 ·(intro w' hSw;obtain ⟨s0,s1,s2,s3⟩:=hSw;go_simp;try with_reducible rfl)
 simp only [Act.put,yB,yC,yD]
 refine wpAnyT_take 26 (some 47) ?_ rfl rfl (by kernel_rfl) (fun _ _ _ h=>h) hS0 (Or.inl ⟨by rfl,?_⟩) ?_
 rotate_left
 ·(intro w' hSw;obtain ⟨s0,s1,s2,s3⟩:=hSw;go_simp;try with_reducible rfl)
 simp only [Act.put,yB,yC,yD]
 refine wpAnyT_take 27 (some 48) ?_ rfl rfl (by kernel_rfl) (fun _ _ _ h=>h) hS0 (Or.inl ⟨by rfl,?_⟩) ?_
 rotate_left
 ·(intro w' hSw;obtain ⟨s0,s1,s2,s3⟩:=hSw;go_simp;try with_reducible rfl)
 simp only [Act.put,yB,yC,yD]
 refine wpAnyT_take 28 (some 49) (.int .i64 (j:Int)) rfl rfl (by kernel_rfl) (fun _ _ _ h=>h) hS0 (Or.inl ⟨by rfl,?_⟩) ?_
 ·(intro w' hSw;obtain ⟨s0,s1,s2,s3⟩:=hSw;go_simp;exact EJ.out)
 simp only [Act.put,yB,yC,yD]
 refine wpAnyT_take 29 (some 50) (.int .i64 (j3:Int)) rfl rfl (by kernel_rfl) (fun _ _ _ h=>h) hS0 (Or.inl ⟨by rfl,?_⟩) ?_
 ·(intro w' hSw;obtain ⟨s0,s1,s2,s3⟩:=hSw;go_simp;exact E3.out)
 simp only [Act.put,yB,yC,yD]
 refine wpAnyT_take 30 (some 51) ?_ rfl rfl (by kernel_rfl) (fun _ _ _ h=>h) hS0 (Or.inl ⟨by rfl,?_⟩) ?_
 rotate_left
 ·(intro w' hSw;obtain ⟨s0,s1,s2,s3⟩:=hSw;go_simp;try with_reducible rfl)
 simp only [Act.put,yB,yC,yD]
 refine wpAnyT_take 31 (some 52) ?_ rfl rfl (by kernel_rfl) (fun _ _ _ h=>h) hS0 (Or.inl ⟨by rfl,?_⟩) ?_
 rotate_left
 ·(intro w' hSw;obtain ⟨s0,s1,s2,s3⟩:=hSw;go_simp;try with_reducible rfl)
 simp only [Act.put,yB,yC,yD]
 refine wpAnyT_take 32 (some 53) ?_ rfl rfl (by kernel_rfl) (fun _ _ _ h=>h) hS0 (Or.inl ⟨by rfl,?_⟩) ?_
 rotate_left
 ·(intro w' hSw;obtain ⟨s0,s1,s2,s3⟩:=hSw;go_simp;try with_reducible rfl)
 simp only [Act.put,yB,yC,yD]
 refine wpAnyT_take 33 (some 54) ?_ rfl rfl (by kernel_rfl) (fun _ _ _ h=>h) hS0 (Or.inl ⟨by rfl,?_⟩) ?_
 rotate_left
 ·(intro w' hSw;obtain ⟨s0,s1,s2,s3⟩:=hSw;go_simp;try with_reducible rfl)
 simp only [Act.put,yB,yC,yD]
 refine wpAnyT_take 34 (some 55) ?_ rfl rfl (by kernel_rfl) (fun _ _ _ h=>h) hS0 (Or.inl ⟨by rfl,?_⟩) ?_
 rotate_left
 ·(intro w' hSw;obtain ⟨s0,s1,s2,s3⟩:=hSw;go_simp;try with_reducible rfl)
 simp only [Act.put,yB,yC,yD]
 refine wpAnyT_one 35 rfl (by kernel_rfl) rfl ?_
 intro K hK
 have cg:=cell_ofA HG.out (wCells_new hws (by omega))
 have fg:=frozen_of i HG.out
 obtain ⟨w5,hw5⟩:∃ w5,w5=(w.setCell ⟨g,i,none⟩ (.int .u32 (be4 y0 y1 y2 y3))).drew:=⟨_,rfl⟩
 have HR5:=zh (show w5.heap[g]? = some (.cells (wCells (ws++[be4 y0 y1 y2 y3])) 202 (0,0)) by rw [hw5];show (w.setCell ⟨g,i,none⟩ (.int .u32 (be4 y0 y1 y2 y3))).heap[g]? = _;rw [heap_setCell HG.out,wCells_set hws (by omega)])
 have HM5:=zh (show Mod (fun q=>q=g) w w5 by rw [hw5];exact ((Mod.refl (fun q=>q=g) w).setCell (fun _=>rfl) _).drew)
 have HW5:=zh hw5
 clear hw5
 unfold be4 at HW5
 go_simp
 rw [<- HW5.out]
 show K _ _
 refine hK.out _ _ (fun h=>absurd rfl h) ?_
 clear hK K
 refine wpAnyT_done (by kernel_rfl) ?_ _
 go_wp2_with fail
 exact Met.intro (hJ _ _ ⟨⟨rfl,rfl,rfl,rfl,rfl,rfl,trivial⟩,HR5.out,HM5.out⟩)
set_option maxRecDepth 100000 in
set_option maxHeartbeats 4000000 in
theorem word_hi (g i:Nat) (v0 v1:Value) (a16 a15 a7 a2:Int) (ws:List Int) (a:Act) (w:World) (hi:16<=i) (hi2:i < 64) (hws:ws.length=i) (hg:w.heap[g]? = some (.cells (wCells ws) 202 (0,0)))
  (h16:ws[i - 16]? = some a16) (h15:ws[i - 15]? = some a15) (h7:ws[i - 7]? = some a7) (h2:ws[i - 2]? = some a2)
  (hF:Fr 196 [(0,v0),(1,v1),(4,.pointer (some ⟨g,0,none⟩)),(16,.int .i64 (i:Int))] a) :
  Code.wp prog blkT1 (Exit.then (fun a' w'=>Fr 196 [(0,v0),(1,v1),(4,.pointer (some ⟨g,0,none⟩)),(16,.int .i64 (i:Int))] a'/\w'.heap[g]? = some (.cells (wCells (ws++[nextW a16 a15 a7 a2])) 202 (0,0))/\Mod (fun q=>q=g) w w') Nope) a w:=by
 refine wp_part fun J K' hJ hK=>?_
 obtain ⟨ts,ds⟩:=a
 obtain ⟨hsz,hds,hs0,hs1,hs4,hs16,-⟩:=hF
 dsimp only at hsz hds hs0 hs1 hs4 hs16
 subst hds
 obtain ⟨c,rfl,hc⟩:=lit196 ts hsz
 rw [hc] at hs0
 rw [hc] at hs1
 rw [hc] at hs4
 rw [hc] at hs16
 simp only [hs0,hs1,hs4,hs16]
 clear hc hsz hs0 hs1 hs4 hs16
 have hi0:(16:Int)<=(i:Int):=by omega
 have hi64:(i:Int) < 64:=by omega
 have HG:=zh hg
 have c16:=cell_ofA hg (wCells_old h16)
 have c15:=cell_ofA hg (wCells_old h15)
 have c7:=cell_ofA hg (wCells_old h7)
 have c2:=cell_ofA hg (wCells_old h2)
 obtain ⟨k16,hk16⟩:∃ k,k=i - 16:=⟨_,rfl⟩
 obtain ⟨k15,hk15⟩:∃ k,k=i - 15:=⟨_,rfl⟩
 obtain ⟨k7,hk7⟩:∃ k,k=i - 7:=⟨_,rfl⟩
 obtain ⟨k2,hk2⟩:∃ k,k=i - 2:=⟨_,rfl⟩
 rw [<- hk16] at c16
 rw [<- hk15] at c15
 rw [<- hk7] at c7
 rw [<- hk2] at c2
 have e16:(i:Int) - 16=(k16:Int):=by omega
 have e15:(i:Int) - 15=(k15:Int):=by omega
 have e7:(i:Int) - 7=(k7:Int):=by omega
 have e2:(i:Int) - 2=(k2:Int):=by omega
 have b16:(k16:Int) < 64:=by omega
 have b15:(k15:Int) < 64:=by omega
 have b7:(k7:Int) < 64:=by omega
 have b2:(k2:Int) < 64:=by omega
 have n16:(0:Int)<=(k16:Int):=Int.natCast_nonneg _
 have n15:(0:Int)<=(k15:Int):=Int.natCast_nonneg _
 have n7:(0:Int)<=(k7:Int):=Int.natCast_nonneg _
 have n2:(0:Int)<=(k2:Int):=Int.natCast_nonneg _
 have E16:=zh (show IntKind.i64.wrap (k16:Int)=(k16:Int) by rw [IntKind.wrap_i64];omega)
 have E7:=zh (show IntKind.i64.wrap (k7:Int)=(k7:Int) by rw [IntKind.wrap_i64];omega)
 have C16:=zh c16
 have C7:=zh c7
 have R7:=zh (fun W=>rotl_any a15 7 25 (-7) (by decide) (by decide) (by decide) (by decide) W)
 have R18:=zh (fun W=>rotl_any a15 18 14 (-18) (by decide) (by decide) (by decide) (by decide) W)
 have R17:=zh (fun W=>rotl_any a2 17 15 (-17) (by decide) (by decide) (by decide) (by decide) W)
 have R19:=zh (fun W=>rotl_any a2 19 13 (-19) (by decide) (by decide) (by decide) (by decide) W)
 clear hg h16 h15 h7 h2 hk16 hk15 hk7 hk2 c16 c7
 conv=>arg 2;whnf
 go_upto_region 6 with fail
 go_quiet (fail)
 generalize hw1:World.drewN w _=w1
 have hm1:Mod No w w1:=by rw [<- hw1];exact (Mod.refl No w).drewN _
 have HM1:=zh hm1
 clear hw1 hm1 c15 c2
 go_wp2_with fail
 with_reducible refine (R7.out _).mono ?_
 rintro e w2 ⟨rfl,hm2⟩
 have HM2:=zh (HM1.out.trans hm2)
 clear hm2 HM1 R7
 go_wp2_with fail
 with_reducible refine (R18.out _).mono ?_
 rintro e w3 ⟨rfl,hm3⟩
 have HM3:=zh (HM2.out.trans hm3)
 clear hm3 HM2 R18
 go_wp2_with fail
 with_reducible refine (R17.out _).mono ?_
 rintro e w4 ⟨rfl,hm4⟩
 have HM4:=zh (HM3.out.trans hm4)
 clear hm4 HM3 R17
 go_wp2_with fail
 with_reducible refine (R19.out _).mono ?_
 rintro e w5 ⟨rfl,hm5⟩
 have HM5:=zh (HM4.out.trans hm5)
 clear hm5 HM4 R19
 go_upto_region 9 with fail
 have c16:=HM5.out.cell C16.out (fun f=>f)
 have c7:=HM5.out.cell C7.out (fun f=>f)
 have HG5:=zh (HM5.out.keep HG.out (fun f=>f))
 have hS0:=And.intro c16 c7
 clear c16 c7
 refine wp_region_T (fun w'=>w'.cell? ⟨g,k16,none⟩=some (.int .u32 a16)/\w'.cell? ⟨g,k7,none⟩=some (.int .u32 a7)) 15 (by kernel_rfl) ?_
 refine wpAnyT_take 0 (some 80) ?_ rfl rfl (by kernel_rfl) (fun _ _ _ h=>h) hS0 (Or.inl ⟨by rfl,?_⟩) ?_
 rotate_left
 ·(intro w' hSw;obtain ⟨s0,s1⟩:=hSw;go_simp;try with_reducible rfl)
 simp only [Act.put,yB,yC,yD]
 refine wpAnyT_take 1 (some 81) ?_ rfl rfl (by kernel_rfl) (fun _ _ _ h=>h) hS0 (Or.inl ⟨by rfl,?_⟩) ?_
 rotate_left
 ·(intro w' hSw;obtain ⟨s0,s1⟩:=hSw;go_simp;try with_reducible rfl)
 simp only [Act.put,yB,yC,yD]
 refine wpAnyT_take 2 (some 82) (.int .i64 (k16:Int)) rfl rfl (by kernel_rfl) (fun _ _ _ h=>h) hS0 (Or.inl ⟨by rfl,?_⟩) ?_
 ·(intro w' hSw;obtain ⟨s0,s1⟩:=hSw;go_simp;exact E16.out)
 simp only [Act.put,yB,yC,yD]
 refine wpAnyT_take 3 (some 83) ?_ rfl rfl (by kernel_rfl) (fun _ _ _ h=>h) hS0 (Or.inl ⟨by rfl,?_⟩) ?_
 rotate_left
 ·(intro w' hSw;obtain ⟨s0,s1⟩:=hSw;go_simp;try with_reducible rfl)
 simp only [Act.put,yB,yC,yD]
 refine wpAnyT_take 4 (some 84) ?_ rfl rfl (by kernel_rfl) (fun _ _ _ h=>h) hS0 (Or.inl ⟨by rfl,?_⟩) ?_
 rotate_left
 ·(intro w' hSw;obtain ⟨s0,s1⟩:=hSw;go_simp;try with_reducible rfl)
 simp only [Act.put,yB,yC,yD]
 refine wpAnyT_take 5 (some 85) ?_ rfl rfl (by kernel_rfl) (fun _ _ _ h=>h) hS0 (Or.inl ⟨by rfl,?_⟩) ?_
 rotate_left
 ·(intro w' hSw;obtain ⟨s0,s1⟩:=hSw;go_simp;try with_reducible rfl)
 simp only [Act.put,yB,yC,yD]
 refine wpAnyT_take 6 (some 86) ?_ rfl rfl (by kernel_rfl) (fun _ _ _ h=>h) hS0 (Or.inl ⟨by rfl,?_⟩) ?_
 rotate_left
 ·(intro w' hSw;obtain ⟨s0,s1⟩:=hSw;go_simp;try with_reducible rfl)
 simp only [Act.put,yB,yC,yD]
 refine wpAnyT_take 7 (some 87) ?_ rfl rfl (by kernel_rfl) (fun _ _ _ h=>h) hS0 (Or.inl ⟨by rfl,?_⟩) ?_
 rotate_left
 ·(intro w' hSw;obtain ⟨s0,s1⟩:=hSw;go_simp;try with_reducible rfl)
 simp only [Act.put,yB,yC,yD]
 refine wpAnyT_take 8 (some 88) (.int .i64 (k7:Int)) rfl rfl (by kernel_rfl) (fun _ _ _ h=>h) hS0 (Or.inl ⟨by rfl,?_⟩) ?_
 ·(intro w' hSw;obtain ⟨s0,s1⟩:=hSw;go_simp;exact E7.out)
 simp only [Act.put,yB,yC,yD]
 refine wpAnyT_take 9 (some 89) ?_ rfl rfl (by kernel_rfl) (fun _ _ _ h=>h) hS0 (Or.inl ⟨by rfl,?_⟩) ?_
 rotate_left
 ·(intro w' hSw;obtain ⟨s0,s1⟩:=hSw;go_simp;try with_reducible rfl)
 simp only [Act.put,yB,yC,yD]
 refine wpAnyT_take 10 (some 90) ?_ rfl rfl (by kernel_rfl) (fun _ _ _ h=>h) hS0 (Or.inl ⟨by rfl,?_⟩) ?_
 rotate_left
 ·(intro w' hSw;obtain ⟨s0,s1⟩:=hSw;go_simp;try with_reducible rfl)
 simp only [Act.put,yB,yC,yD]
 refine wpAnyT_take 11 (some 91) ?_ rfl rfl (by kernel_rfl) (fun _ _ _ h=>h) hS0 (Or.inl ⟨by rfl,?_⟩) ?_
 rotate_left
 ·(intro w' hSw;obtain ⟨s0,s1⟩:=hSw;go_simp;try with_reducible rfl)
 simp only [Act.put,yB,yC,yD]
 refine wpAnyT_take 12 (some 92) ?_ rfl rfl (by kernel_rfl) (fun _ _ _ h=>h) hS0 (Or.inl ⟨by rfl,?_⟩) ?_
 rotate_left
 ·(intro w' hSw;obtain ⟨s0,s1⟩:=hSw;go_simp;try with_reducible rfl)
 simp only [Act.put,yB,yC,yD]
 refine wpAnyT_take 13 (some 93) ?_ rfl rfl (by kernel_rfl) (fun _ _ _ h=>h) hS0 (Or.inl ⟨by rfl,?_⟩) ?_
 rotate_left
 ·(intro w' hSw;obtain ⟨s0,s1⟩:=hSw;go_simp;try with_reducible rfl)
 simp only [Act.put,yB,yC,yD]
 refine wpAnyT_take 14 (some 94) ?_ rfl rfl (by kernel_rfl) (fun _ _ _ h=>h) hS0 (Or.inl ⟨by rfl,?_⟩) ?_
 rotate_left
 ·(intro w' hSw;obtain ⟨s0,s1⟩:=hSw;go_simp;try with_reducible rfl)
 simp only [Act.put,yB,yC,yD]
 refine wpAnyT_one 15 rfl (by kernel_rfl) rfl ?_
 intro K hK
 have cg:=cell_ofA HG5.out (wCells_new hws (by omega))
 have fg:=frozen_of i HG5.out
 obtain ⟨w6,hw6⟩:∃ w6,w6=(w5.setCell ⟨g,i,none⟩ (.int .u32 (nextW a16 a15 a7 a2))).drew:=⟨_,rfl⟩
 have HR6:=zh (show w6.heap[g]? = some (.cells (wCells (ws++[nextW a16 a15 a7 a2])) 202 (0,0)) by rw [hw6];show (w5.setCell ⟨g,i,none⟩ (.int .u32 (nextW a16 a15 a7 a2))).heap[g]? = _;rw [heap_setCell HG5.out,wCells_set hws (by omega)])
 have HM6:=zh (show Mod (fun q=>q=g) w w6 by rw [hw6];exact (((HM5.out.weaken fun _ _ f=>f.elim:Mod (fun q=>q=g) w w5)).setCell (p:=⟨g,i,none⟩) (fun _=>rfl) _).drew)
 have HW6:=zh hw6
 clear hw6
 unfold nextW wd sg0 sg1 xo at HW6
 go_simp
 rw [<- HW6.out]
 show K _ _
 refine hK.out _ _ (fun h=>absurd rfl h) ?_
 clear hK K
 refine wpAnyT_done (by kernel_rfl) ?_ _
 go_wp2_with fail
 exact Met.intro (hJ _ _ ⟨⟨rfl,rfl,rfl,rfl,rfl,rfl,trivial⟩,HR6.out,HM6.out⟩)
set_option maxRecDepth 100000 in
set_option maxHeartbeats 8000000 in
theorem round_any (q g sb i:Nat) (v1:Value) (x0 x1 x2 x3 x4 x5 x6 x7 kk wv:Int) (S72:Array Value) (ws:Array Value) (a:Act) (w:World) (hi:i < 64)
  (hq:w.heap[q]? = some (.cells S72 205 (0,0))) (hk:S72[8+i]? = some (.int .u32 kk)) (hg:w.heap[g]? = some (.cells ws 202 (0,0))) (hw:ws[i]? = some (.int .u32 wv))
  (hs:w.heap[sb]? = some (.cells #[.int .u32 x0,.int .u32 x1,.int .u32 x2,.int .u32 x3,.int .u32 x4,.int .u32 x5,.int .u32 x6,.int .u32 x7] 200 (0,0)))
  (hF:Fr 196 [(0,.pointer (some ⟨q,0,none⟩)),(1,v1),(4,.pointer (some ⟨g,0,none⟩)),(8,.pointer (some ⟨sb,0,none⟩)),(100,.int .i64 (i:Int))] a) :
  Code.wp prog blkT3 (Exit.then (fun a' w'=>Fr 196 [(0,.pointer (some ⟨q,0,none⟩)),(1,v1),(4,.pointer (some ⟨g,0,none⟩)),(8,.pointer (some ⟨sb,0,none⟩)),(100,.int .i64 (i:Int))] a'/\w'.heap[sb]? = some (.cells #[.int .u32 (wd (oneF x4 x5 x6 x7 kk wv) (twoF x0 x1 x2)),.int .u32 x0,.int .u32 x1,.int .u32 x2,.int .u32 (wd x3 (oneF x4 x5 x6 x7 kk wv)),.int .u32 x4,.int .u32 x5,.int .u32 x6] 200 (0,0))/\Mod (fun p=>p=sb) w w') Nope) a w:=by
 refine wp_part fun J K' hJ hK=>?_
 obtain ⟨ts,ds⟩:=a
 obtain ⟨hsz,hds,hs0,hs1,hs4,hs8,hs100,-⟩:=hF
 dsimp only at hsz hds hs0 hs1 hs4 hs8 hs100
 subst hds
 obtain ⟨c,rfl,hc⟩:=lit196 ts hsz
 rw [hc] at hs0
 rw [hc] at hs1
 rw [hc] at hs4
 rw [hc] at hs8
 rw [hc] at hs100
 simp only [hs0,hs1,hs4,hs8,hs100]
 clear hc hsz hs0 hs1 hs4 hs8 hs100
 have hi0:(0:Int)<=(i:Int):=Int.natCast_nonneg _
 have hi64:(i:Int) < 64:=by omega
 have ck:=cell_ofA hq hk
 have cw:=cell_ofA hg hw
 have s0:=cell_of (i:=0) hs rfl
 have s1:=cell_of (i:=1) hs rfl
 have s2:=cell_of (i:=2) hs rfl
 have s3:=cell_of (i:=3) hs rfl
 have s4:=cell_of (i:=4) hs rfl
 have s5:=cell_of (i:=5) hs rfl
 have s6:=cell_of (i:=6) hs rfl
 have s7:=cell_of (i:=7) hs rfl
 have HS:=zh hs
 have R6:=zh (fun W=>rotl_any x4 6 26 (-6) (by decide) (by decide) (by decide) (by decide) W)
 have R11:=zh (fun W=>rotl_any x4 11 21 (-11) (by decide) (by decide) (by decide) (by decide) W)
 have R25:=zh (fun W=>rotl_any x4 25 7 (-25) (by decide) (by decide) (by decide) (by decide) W)
 have R2:=zh (fun W=>rotl_any x0 2 30 (-2) (by decide) (by decide) (by decide) (by decide) W)
 have R13:=zh (fun W=>rotl_any x0 13 19 (-13) (by decide) (by decide) (by decide) (by decide) W)
 have R22:=zh (fun W=>rotl_any x0 22 10 (-22) (by decide) (by decide) (by decide) (by decide) W)
 have HC:=zh (And.intro ck (And.intro cw (And.intro s0 (And.intro s1 (And.intro s2 (And.intro s4 (And.intro s5 (And.intro s6 s7))))))))
 clear hq hk hg hw hs ck cw s1 s2 s3 s5 s6 s7
 conv=>arg 2;whnf
 go_upto_region 15 with fail
 go_quiet (fail)
 generalize hw1:World.drewN w _=w1
 have hm1:Mod No w w1:=by rw [<- hw1];exact (Mod.refl No w).drewN _
 have HM1:=zh hm1
 clear hw1 hm1 s0 s4
 go_wp2_with fail
 with_reducible refine (R6.out _).mono ?_
 rintro e w2 ⟨rfl,hm2⟩
 have HM2:=zh (HM1.out.trans hm2)
 clear hm2 HM1 R6
 go_wp2_with fail
 with_reducible refine (R11.out _).mono ?_
 rintro e w3 ⟨rfl,hm3⟩
 have HM3:=zh (HM2.out.trans hm3)
 clear hm3 HM2 R11
 go_wp2_with fail
 with_reducible refine (R25.out _).mono ?_
 rintro e w4 ⟨rfl,hm4⟩
 have HM4:=zh (HM3.out.trans hm4)
 clear hm4 HM3 R25
 obtain ⟨ck,cw,s0,s1,s2,s4,s5,s6,s7⟩:=HC.out
 have ck:=HM4.out.cell ck (fun f=>f)
 have cw:=HM4.out.cell cw (fun f=>f)
 have s5:=HM4.out.cell s5 (fun f=>f)
 have s6:=HM4.out.cell s6 (fun f=>f)
 have s7:=HM4.out.cell s7 (fun f=>f)
 clear s0 s1 s2 s4
 go_upto_region 17 with fail
 go_quiet (fail)
 generalize hw5:World.drewN w4 _=w5
 have HM5:=zh (show Mod No w w5 by rw [<- hw5];exact HM4.out.drewN _)
 clear hw5 ck cw s5 s6 s7 HM4
 go_wp2_with fail
 with_reducible refine (R2.out _).mono ?_
 rintro e w6 ⟨rfl,hm6⟩
 have HM6:=zh (HM5.out.trans hm6)
 clear hm6 HM5 R2
 go_wp2_with fail
 with_reducible refine (R13.out _).mono ?_
 rintro e w7 ⟨rfl,hm7⟩
 have HM7:=zh (HM6.out.trans hm7)
 clear hm7 HM6 R13
 go_wp2_with fail
 with_reducible refine (R22.out _).mono ?_
 rintro e w8 ⟨rfl,hm8⟩
 have HM8:=zh (HM7.out.trans hm8)
 clear hm8 HM7 R22
 obtain ⟨ck,cw,s0,s1,s2,s4,s5,s6,s7⟩:=HC.out
 have s1:=HM8.out.cell s1 (fun f=>f)
 have s2:=HM8.out.cell s2 (fun f=>f)
 clear ck cw s0 s4 s5 s6 s7
 go_upto_region 20 with fail
 have hs8:=HM8.out.keep HS.out (fun f=>f)
 obtain ⟨wd8,hwd8⟩:∃ y,y=w8.drew:=⟨_,rfl⟩
 have hmd:Mod No w8 wd8:=by rw [hwd8];exact (Mod.refl No _).drew
 have hs8:=hmd.keep hs8 (fun f=>f)
 obtain ⟨w9,hw9⟩:∃ y,y=wd8.setRow sb #[.int .u32 x0,.int .u32 x0,.int .u32 x1,.int .u32 x2,.int .u32 x3,.int .u32 x4,.int .u32 x5,.int .u32 x6]:=⟨_,rfl⟩
 have HRUN:=zh (show ∀ ty,(Builtin.copy_ #[260,260] ty #[.slice (some ⟨sb,1,none⟩) 7 7,.slice (some ⟨sb,0,none⟩) 7 8]).run prog wd8=.ok (.int .i64 7) w9 from fun ty=>by
  rw [hw9]
  exact run_copy_row (P:=prog) wd8 260 260 ty 199 sb 1 7 7 ⟨sb,0,none⟩ 7 8 _ _ [.int .u32 x0,.int .u32 x1,.int .u32 x2,.int .u32 x3,.int .u32 x4,.int .u32 x5,.int .u32 x6] underlying260 (by kernel_rfl) hs8 rfl (fun j v h=>by
   rw [Addr.add_lit,Nat.zero_add]
   match j,h with
   | 0,h=>cases h;exact cell_of (i:=0) hs8 rfl
   | 1,h=>cases h;exact cell_of (i:=1) hs8 rfl
   | 2,h=>cases h;exact cell_of (i:=2) hs8 rfl
   | 3,h=>cases h;exact cell_of (i:=3) hs8 rfl
   | 4,h=>cases h;exact cell_of (i:=4) hs8 rfl
   | 5,h=>cases h;exact cell_of (i:=5) hs8 rfl
   | 6,h=>cases h;exact cell_of (i:=6) hs8 rfl
   | j+7,h=>cases h) (by simp) (fun v hv=>by
   simp at hv
   rcases hv with rfl | rfl | rfl | rfl | rfl | rfl | rfl <;> rfl))
 have hg9:w9.heap[sb]? = some (.cells #[.int .u32 x0,.int .u32 x0,.int .u32 x1,.int .u32 x2,.int .u32 x3,.int .u32 x4,.int .u32 x5,.int .u32 x6] 200 (0,0)):=by rw [hw9];exact setRow_heap _ _ _ _ _ _ hs8
 have hm9:Mod (fun p=>p=sb) w w9:=by
  rw [hw9]
  refine (((HM8.out.trans hmd).weaken fun _ _ f=>f.elim:Mod (fun p=>p=sb) w wd8)).trans ⟨rfl,rfl,rfl,by simp [World.setRow],fun k hk hn=>setRow_other wd8 sb k _ hn⟩
 have HW9:=zh hw9
 have HWD:=zh hwd8
 have HM9:=zh hm9
 have HG9:=zh hg9
 have hS0:True:=trivial
 clear s1 s2 hw9 hwd8 hm9 hg9 hmd hs8
 refine wp_region_T (fun _=>True) 99 (by kernel_rfl) ?_
 rw [<- HWD.out]
 refine yT 0 (some 166) ?_ hS0 ?_ ?_
 rotate_left
 ·(intro w' hSw;go_simp;try with_reducible rfl)
 simp only [Act.put,yB,yC,yD]
 refine yT 1 (some 167) ?_ hS0 ?_ ?_
 rotate_left
 ·(intro w' hSw;go_simp;try with_reducible rfl)
 simp only [Act.put,yB,yC,yD]
 refine wpAnyT_one 2 rfl (by kernel_rfl) rfl ?_
 intro K hK
 have hrun:=HRUN.out
 go_simp
 show K _ _
 have hS1:=trivial
 refine hK.out _ _ (fun _=>hS1) ?_
 clear hK K
 refine wpAnyT_done (by kernel_rfl) ?_ _
 have t0:=cell_of (i:=0) HG9.out rfl
 have t4:=cell_of (i:=4) HG9.out rfl
 have f0:=frozen_of 0 HG9.out
 have f4:=frozen_of 4 HG9.out
 clear hS0 hS1
 obtain ⟨X,hX⟩:∃ X,X=oneF x4 x5 x6 x7 kk wv:=⟨_,rfl⟩
 obtain ⟨Y,hY⟩:∃ Y,Y=twoF x0 x1 x2:=⟨_,rfl⟩
 have hX2:(x7+bits .xor .u32 (bits .xor .u32 (rotR 6 x4) (rotR 11 x4)) (rotR 25 x4)+bits .xor .u32 (bits .and .u32 x4 x5) (bits .and .u32 (bits .xor .u32 IntKind.u32.max x4) x6)+kk+wv) % 4294967296=X:=by rw [hX];rfl
 have hY2:(bits .xor .u32 (bits .xor .u32 (rotR 2 x0) (rotR 13 x0)) (rotR 22 x0)+bits .xor .u32 (bits .xor .u32 (bits .and .u32 x0 x1) (bits .and .u32 x0 x2)) (bits .and .u32 x1 x2)) % 4294967296=Y:=by rw [hY];rfl
 rw [hX2,hY2]
 rw [<- hX,<- hY] at hJ
 clear hX2 hY2 hX hY
 go_wp2_with fail
 have hwa:wd X Y=(X+Y) % 4294967296:=IntKind.wrap_u32 _
 have hwb:wd x3 X=(x3+X) % 4294967296:=IntKind.wrap_u32 _
 rw [hwa,hwb] at hJ
 exact Met.intro (hJ _ _ ⟨⟨rfl,rfl,rfl,rfl,rfl,rfl,rfl,trivial⟩,by have h1:=heap_setCell (heap_setCell HG9.out (.int .u32 ((X+Y) % 4294967296)) (i:=0)) (.int .u32 ((x3+X) % 4294967296)) (i:=4);rw [h1];rfl,(HM9.out.setCell (fun _=>rfl) _).setCell (fun _=>rfl) _⟩)
set_option maxRecDepth 100000 in
set_option maxHeartbeats 4000000 in
theorem added_any (q sb i:Nat) (x y:Int) (S72 S8:Array Value) (a:Act) (w:World) (hi:i < 8)
  (hq:w.heap[q]? = some (.cells S72 205 (0,0))) (hx:S72[i]? = some (.int .u32 x)) (hs:w.heap[sb]? = some (.cells S8 200 (0,0))) (hy:S8[i]? = some (.int .u32 y))
  (hF:Fr 196 [(0,.pointer (some ⟨q,0,none⟩)),(8,.pointer (some ⟨sb,0,none⟩)),(179,.int .i64 (i:Int))] a) :
  Code.wp prog blkT5 (Exit.then (fun a' w'=>Fr 196 [(0,.pointer (some ⟨q,0,none⟩)),(8,.pointer (some ⟨sb,0,none⟩)),(179,.int .i64 (i:Int))] a'/\w'.heap[q]? = some (.cells (S72.setIfInBounds i (.int .u32 (wd x y))) 205 (0,0))/\Mod (fun p=>p=q) w w') Nope) a w:=by
 refine wp_part fun J K' hJ hK=>?_
 obtain ⟨ts,ds⟩:=a
 obtain ⟨hsz,hds,hs0,hs8,hs179,-⟩:=hF
 dsimp only at hsz hds hs0 hs8 hs179
 subst hds
 obtain ⟨c,rfl,hc⟩:=lit196 ts hsz
 rw [hc] at hs0
 rw [hc] at hs8
 rw [hc] at hs179
 simp only [hs0,hs8,hs179]
 clear hc hsz hs0 hs8 hs179
 have hi0:(0:Int)<=(i:Int):=Int.natCast_nonneg _
 have hi8:(i:Int) < 8:=by omega
 have HQ:=zh hq
 have HX:=zh hx
 have s0:=cell_ofA hq hx
 have s1:=cell_ofA hs hy
 have hS0:=And.intro s0 s1
 clear hq hx hs hy s0 s1
 conv=>arg 2;whnf
 go_upto_region 26 with fail
 refine wp_region_T (fun w'=>w'.cell? ⟨q,i,none⟩=some (.int .u32 x)/\w'.cell? ⟨sb,i,none⟩=some (.int .u32 y)) 13 (by kernel_rfl) ?_
 refine wpAnyT_take 0 (some 182) ?_ rfl rfl (by kernel_rfl) (fun _ _ _ h=>h) hS0 (Or.inl ⟨by rfl,?_⟩) ?_
 rotate_left
 ·(intro w' hSw;obtain ⟨s0,s1⟩:=hSw;go_simp;try with_reducible rfl)
 simp only [Act.put,yB,yC,yD]
 refine wpAnyT_take 1 (some 183) ?_ rfl rfl (by kernel_rfl) (fun _ _ _ h=>h) hS0 (Or.inl ⟨by rfl,?_⟩) ?_
 rotate_left
 ·(intro w' hSw;obtain ⟨s0,s1⟩:=hSw;go_simp;try with_reducible rfl)
 simp only [Act.put,yB,yC,yD]
 refine wpAnyT_take 2 (some 184) ?_ rfl rfl (by kernel_rfl) (fun _ _ _ h=>h) hS0 (Or.inl ⟨by rfl,?_⟩) ?_
 rotate_left
 ·(intro w' hSw;obtain ⟨s0,s1⟩:=hSw;go_simp;try with_reducible rfl)
 simp only [Act.put,yB,yC,yD]
 refine wpAnyT_take 3 (some 185) ?_ rfl rfl (by kernel_rfl) (fun _ _ _ h=>h) hS0 (Or.inl ⟨by rfl,?_⟩) ?_
 rotate_left
 ·(intro w' hSw;obtain ⟨s0,s1⟩:=hSw;go_simp;try with_reducible rfl)
 simp only [Act.put,yB,yC,yD]
 refine wpAnyT_take 4 (some 186) ?_ rfl rfl (by kernel_rfl) (fun _ _ _ h=>h) hS0 (Or.inl ⟨by rfl,?_⟩) ?_
 rotate_left
 ·(intro w' hSw;obtain ⟨s0,s1⟩:=hSw;go_simp;try with_reducible rfl)
 simp only [Act.put,yB,yC,yD]
 refine wpAnyT_take 5 (some 187) ?_ rfl rfl (by kernel_rfl) (fun _ _ _ h=>h) hS0 (Or.inl ⟨by rfl,?_⟩) ?_
 rotate_left
 ·(intro w' hSw;obtain ⟨s0,s1⟩:=hSw;go_simp;try with_reducible rfl)
 simp only [Act.put,yB,yC,yD]
 refine wpAnyT_take 6 (some 188) ?_ rfl rfl (by kernel_rfl) (fun _ _ _ h=>h) hS0 (Or.inl ⟨by rfl,?_⟩) ?_
 rotate_left
 ·(intro w' hSw;obtain ⟨s0,s1⟩:=hSw;go_simp;try with_reducible rfl)
 simp only [Act.put,yB,yC,yD]
 refine wpAnyT_take 7 (some 189) ?_ rfl rfl (by kernel_rfl) (fun _ _ _ h=>h) hS0 (Or.inl ⟨by rfl,?_⟩) ?_
 rotate_left
 ·(intro w' hSw;obtain ⟨s0,s1⟩:=hSw;go_simp;try with_reducible rfl)
 simp only [Act.put,yB,yC,yD]
 refine wpAnyT_take 8 (some 190) ?_ rfl rfl (by kernel_rfl) (fun _ _ _ h=>h) hS0 (Or.inl ⟨by rfl,?_⟩) ?_
 rotate_left
 ·(intro w' hSw;obtain ⟨s0,s1⟩:=hSw;go_simp;try with_reducible rfl)
 simp only [Act.put,yB,yC,yD]
 refine wpAnyT_take 9 (some 191) ?_ rfl rfl (by kernel_rfl) (fun _ _ _ h=>h) hS0 (Or.inl ⟨by rfl,?_⟩) ?_
 rotate_left
 ·(intro w' hSw;obtain ⟨s0,s1⟩:=hSw;go_simp;try with_reducible rfl)
 simp only [Act.put,yB,yC,yD]
 refine wpAnyT_takeC [11,12,13] 10 (some 192) ?_ rfl rfl (by kernel_rfl) (fun _ _ _ h=>h) hS0 (Or.inl ⟨by rfl,?_⟩) ?_
 rotate_left
 ·(intro w' hSw;obtain ⟨s0,s1⟩:=hSw;go_simp;try with_reducible rfl)
 simp only [Act.put,yB,yC,yD]
 refine wpAnyT_takeC [12,13] 11 (some 193) ?_ rfl rfl (by kernel_rfl) (fun _ _ _ h=>h) hS0 (Or.inl ⟨by rfl,?_⟩) ?_
 rotate_left
 ·(intro w' hSw;obtain ⟨s0,s1⟩:=hSw;go_simp;try with_reducible rfl)
 simp only [Act.put,yB,yC,yD]
 refine wpAnyT_take 12 (some 194) ?_ rfl rfl (by kernel_rfl) (fun _ _ _ h=>h) hS0 (Or.inl ⟨by rfl,?_⟩) ?_
 rotate_left
 ·(intro w' hSw;obtain ⟨s0,s1⟩:=hSw;go_simp;try with_reducible rfl)
 simp only [Act.put,yB,yC,yD]
 refine wpAnyT_one 13 rfl (by kernel_rfl) rfl ?_
 intro K hK
 have cg:=cell_ofA HQ.out HX.out
 have fg:=frozen_of i HQ.out
 obtain ⟨w6,hw6⟩:∃ w6,w6=(w.setCell ⟨q,i,none⟩ (.int .u32 (wd x y))).drew:=⟨_,rfl⟩
 have HR6:=zh (show w6.heap[q]? = some (.cells (S72.setIfInBounds i (.int .u32 (wd x y))) 205 (0,0)) by rw [hw6];show (w.setCell ⟨q,i,none⟩ (.int .u32 (wd x y))).heap[q]? = _;rw [heap_setCell HQ.out])
 have HM6:=zh (show Mod (fun p=>p=q) w w6 by rw [hw6];exact ((Mod.refl (fun p=>p=q) w).setCell (fun _=>rfl) _).drew)
 have HW6:=zh hw6
 clear hw6
 unfold wd at HW6
 go_simp
 rw [<- HW6.out]
 show K _ _
 refine hK.out _ _ (fun h=>absurd rfl h) ?_
 clear hK K
 refine wpAnyT_done (by kernel_rfl) ?_ _
 go_wp2_with fail
 exact Met.intro (hJ _ _ ⟨⟨rfl,rfl,rfl,rfl,rfl,trivial⟩,HR6.out,HM6.out⟩)
noncomputable def blkT0:Code:=(blockAt 0 bodyT).getD .skip
noncomputable def blkT2:Code:=(blockAt 2 bodyT).getD .skip
noncomputable def blkT4:Code:=(blockAt 4 bodyT).getD .skip
def LpW (w0:World) (b:Nat->Int) (bb bo bn bc g:Nat) (v0:Value) (k:Nat) (a:Act) (w:World):Prop :=
 ∃ i,i+k=64/\Mod (fun q=>q=g) w0 w/\w.heap[g]? = some (.cells (wCells (wordsF b i)) 202 (0,0)) ∧
  Fr 196 [(0,v0),(1,.slice (some ⟨bb,bo,none⟩) bn bc),(4,.pointer (some ⟨g,0,none⟩)),(16,.int .i64 (i:Int))] a
set_option maxRecDepth 100000 in
set_option maxHeartbeats 4000000 in
theorem words_any (b:Nat->Int) (bb bo bn bc g:Nat) (v0:Value) (f:Act) (w:World) (hn:64<=bn) (hbg:bb ≠ g)
  (hb:∀ k,k < 64->w.cell? ⟨bb,bo+k,none⟩=some (.int .u8 (b k))) (hg:w.heap[g]? = some (.cells (wCells []) 202 (0,0)))
  (hF:Fr 196 [(0,v0),(1,.slice (some ⟨bb,bo,none⟩) bn bc),(4,.pointer (some ⟨g,0,none⟩)),(16,.int .i64 0)] f) :
  Code.wp prog blkT0 (Exit.then (fun a' w'=>Fr 196 [(0,v0),(1,.slice (some ⟨bb,bo,none⟩) bn bc),(4,.pointer (some ⟨g,0,none⟩))] a'/\w'.heap[g]? = some (.cells (wCells (wordsF b 64)) 202 (0,0))/\Mod (fun q=>q=g) w w') Nope) f w:=by
 refine wp_part fun J K' hJ hK=>?_
 have H0:=zh (show LpW w b bb bo bn bc g v0 64 f w from ⟨0,rfl,Mod.refl _ w,hg,hF⟩)
 have HB:=zh hb
 have HJ:=zh hJ
 obtain ⟨w0,hw0⟩:∃ w0,w0=w:=⟨_,rfl⟩
 rw [<- hw0] at HB HJ H0
 clear hb hF hJ hg
 conv=>arg 2;whnf
 go_step
 refine wp_loop_ghost_k (LpW w0 b bb bo bn bc g v0) 64 (by rw [hw0] at H0 ⊢;exact H0.out) ?_
 clear H0 hw0 f w
 intro k f w hI J2 K2 hJ2 hK2
 have HJ2:=zh hJ2
 obtain ⟨i,hik,hmod,hg,hF⟩:=hI
 have HG:=zh hg
 have HM:=zh hmod
 clear hJ2 hg hmod
 obtain ⟨ts,ds⟩:=f
 obtain ⟨hsz,hds,hs0,hs1,hs4,hs16,-⟩:=hF
 dsimp only at hsz hds hs0 hs1 hs4 hs16
 subst hds
 obtain ⟨c,rfl,hc⟩:=lit196 ts hsz
 rw [hc] at hs0
 rw [hc] at hs1
 rw [hc] at hs4
 rw [hc] at hs16
 simp only [hs0,hs1,hs4,hs16]
 clear hc hsz hs0 hs1 hs4 hs16
 have hi0:(0:Int)<=(i:Int):=Int.natCast_nonneg _
 by_cases hi:i < 64
 ·have hi64:(i:Int) < 64:=by omega
  go_upto_block 1 with fail
  rename_i K5 hK5
  have hnext:∀ a,Fr 196 [(0,v0),(1,.slice (some ⟨bb,bo,none⟩) bn bc),(4,.pointer (some ⟨g,0,none⟩)),(16,.int .i64 (i:Int))] a->Code.wp prog blkT1 (Exit.then (fun a' w'=>Fr 196 [(0,v0),(1,.slice (some ⟨bb,bo,none⟩) bn bc),(4,.pointer (some ⟨g,0,none⟩)),(16,.int .i64 (i:Int))] a'/\w'.heap[g]? = some (.cells (wCells (wordsF b (i+1))) 202 (0,0))/\Mod (fun q=>q=g) w w') Nope) a w:=fun a hF=>by
   by_cases h16:i < 16
   ·rw [wordsF_lo b h16]
    have hc:∀ j,j < 4->w.cell? ⟨bb,bo+(4*i+j),none⟩=some (.int .u8 (b (4*i+j))):=fun j hj=>HM.out.cell (HB.out _ (by omega)) (fun e=>hbg e)
    exact word_lo bb bo bn bc g i v0 _ _ _ _ _ _ w h16 hn (wordsF_length b i) HG.out (hc 0 (by omega)) (hc 1 (by omega)) (hc 2 (by omega)) (hc 3 (by omega)) hF
   ·rw [wordsF_hi b (by omega)]
    exact word_hi g i v0 _ _ _ _ _ _ _ w (by omega) hi (wordsF_length b i) HG.out (wordsF_at b (by omega)) (wordsF_at b (by omega)) (wordsF_at b (by omega)) (wordsF_at b (by omega)) hF
  refine wp_only (hnext _ ⟨rfl,rfl,rfl,rfl,rfl,rfl,trivial⟩) ?_
  clear hnext
  rintro a2 w2 ⟨hF,hg2,hm2⟩
  have HG2:=zh hg2
  have HM2:=zh (HM.out.trans hm2)
  clear hg2 hm2 HG
  refine hK5 _ _ ?_
  obtain ⟨ts,ds⟩:=a2
  obtain ⟨hsz,hds,hs0,hs1,hs4,hs16,-⟩:=hF
  dsimp only at hsz hds hs0 hs1 hs4 hs16
  subst hds
  obtain ⟨c,rfl,hc⟩:=lit196 ts hsz
  rw [hc] at hs0
  rw [hc] at hs1
  rw [hc] at hs4
  rw [hc] at hs16
  simp only [hs0,hs1,hs4,hs16]
  clear hc hsz hs0 hs1 hs4 hs16
  clear hK5 K5
  go_wp2_with fail
  exact Handed.intro (k - 1) (by omega) (HJ2.out _ _ _ ⟨i+1,by omega,HM2.out,HG2.out,rfl,rfl,rfl,rfl,rfl,by go_num,trivial⟩)
 ·have hi64:i=64:=by omega
  subst hi64
  go_wp2_with fail
  exact Met.intro (HJ.out _ _ ⟨⟨rfl,rfl,rfl,rfl,rfl,trivial⟩,HG.out,HM.out⟩)
def stA (h ks:List Int):Array Value:=((h++ks).map (Value.int .u32)).toArray
theorem stA_k {h ks:List Int} (hh:h.length=8) {i:Nat} {k:Int} (hk:ks[i]? = some k):(stA h ks)[8+i]? = some (.int .u32 k):=by
 unfold stA
 rw [List.getElem?_toArray,List.getElem?_map,List.getElem?_append_right (by omega),hh,Nat.add_sub_cancel_left,hk];rfl
theorem stA_h {u v ks:List Int} {x:Int}:(stA (u++x :: v) ks)[u.length]? = some (.int .u32 x):=by
 unfold stA
 rw [List.getElem?_toArray,List.getElem?_map,List.append_assoc,List.getElem?_append_right (Nat.le_refl _),Nat.sub_self];rfl
theorem stA_set {u v ks:List Int} {x y:Int}:(stA (u++x :: v) ks).setIfInBounds u.length (.int .u32 y)=stA ((u++[y])++v) ks:=by
 unfold stA
 rw [List.setIfInBounds_toArray,List.append_assoc,List.map_append,List.set_append_right _ _ (by simp)]
 simp
set_option maxRecDepth 100000 in
def LpR (w0:World) (q g sb:Nat) (v1:Value) (kws:List (Int × Int)) (fin:List Int) (k:Nat) (a:Act) (w:World):Prop :=
 ∃ i x0 x1 x2 x3 x4 x5 x6 x7,i+k=64/\(kws.drop i).foldl rndL [x0,x1,x2,x3,x4,x5,x6,x7]=fin/\Mod (fun p=>p=sb) w0 w/\w.heap[sb]? = some (.cells #[.int .u32 x0,.int .u32 x1,.int .u32 x2,.int .u32 x3,.int .u32 x4,.int .u32 x5,.int .u32 x6,.int .u32 x7] 200 (0,0)) ∧
  Fr 196 [(0,.pointer (some ⟨q,0,none⟩)),(1,v1),(4,.pointer (some ⟨g,0,none⟩)),(8,.pointer (some ⟨sb,0,none⟩)),(100,.int .i64 (i:Int))] a
set_option maxRecDepth 100000 in
set_option maxHeartbeats 4000000 in
theorem rounds_any (q g sb:Nat) (v1:Value) (x0 x1 x2 x3 x4 x5 x6 x7:Int) (h ks ws:List Int) (f:Act) (w:World) (hh:h.length=8) (hkl:ks.length=64) (hwl:ws.length=64) (hsq:sb ≠ q) (hsg:sb ≠ g)
  (hq:w.heap[q]? = some (.cells (stA h ks) 205 (0,0))) (hg:w.heap[g]? = some (.cells (wCells ws) 202 (0,0)))
  (hs:w.heap[sb]? = some (.cells #[.int .u32 x0,.int .u32 x1,.int .u32 x2,.int .u32 x3,.int .u32 x4,.int .u32 x5,.int .u32 x6,.int .u32 x7] 200 (0,0)))
  (hF:Fr 196 [(0,.pointer (some ⟨q,0,none⟩)),(1,v1),(4,.pointer (some ⟨g,0,none⟩)),(8,.pointer (some ⟨sb,0,none⟩)),(100,.int .i64 0)] f) :
  Code.wp prog blkT2 (Exit.then (fun a' w'=>Fr 196 [(0,.pointer (some ⟨q,0,none⟩)),(8,.pointer (some ⟨sb,0,none⟩))] a'/\(∃ y0 y1 y2 y3 y4 y5 y6 y7,(ks.zip ws).foldl rndL [x0,x1,x2,x3,x4,x5,x6,x7]=[y0,y1,y2,y3,y4,y5,y6,y7]/\w'.heap[sb]? = some (.cells #[.int .u32 y0,.int .u32 y1,.int .u32 y2,.int .u32 y3,.int .u32 y4,.int .u32 y5,.int .u32 y6,.int .u32 y7] 200 (0,0)))/\Mod (fun p=>p=sb) w w') Nope) f w:=by
 refine wp_part fun J K' hJ hK=>?_
 have H0:=zh (show LpR w q g sb v1 (ks.zip ws) ((ks.zip ws).foldl rndL [x0,x1,x2,x3,x4,x5,x6,x7]) 64 f w from ⟨0,x0,x1,x2,x3,x4,x5,x6,x7,rfl,rfl,Mod.refl _ w,hs,hF⟩)
 have HQ:=zh (And.intro hq hg)
 have HJ:=zh hJ
 obtain ⟨w0,hw0⟩:∃ w0,w0=w:=⟨_,rfl⟩
 rw [<- hw0] at HQ HJ H0
 obtain ⟨fin,hfin⟩:∃ fin,fin=(ks.zip ws).foldl rndL [x0,x1,x2,x3,x4,x5,x6,x7]:=⟨_,rfl⟩
 rw [<- hfin] at HJ H0
 clear hF hJ hg hs hq hfin
 conv=>arg 2;whnf
 go_step
 refine wp_loop_ghost_k (LpR w0 q g sb v1 (ks.zip ws) fin) 64 (by rw [hw0] at H0 ⊢;exact H0.out) ?_
 clear H0 hw0 f w x0 x1 x2 x3 x4 x5 x6 x7
 intro k f w hI J2 K2 hJ2 hK2
 have HJ2:=zh hJ2
 obtain ⟨i,x0,x1,x2,x3,x4,x5,x6,x7,hik,hfo,hmod,hsb,hF⟩:=hI
 have HG:=zh hsb
 have HM:=zh hmod
 have HFO:=zh hfo
 clear hJ2 hsb hmod hfo
 obtain ⟨ts,ds⟩:=f
 obtain ⟨hsz,hds,hs0,hs1,hs4,hs8,hs100,-⟩:=hF
 dsimp only at hsz hds hs0 hs1 hs4 hs8 hs100
 subst hds
 obtain ⟨c,rfl,hc⟩:=lit196 ts hsz
 rw [hc] at hs0
 rw [hc] at hs1
 rw [hc] at hs4
 rw [hc] at hs8
 rw [hc] at hs100
 simp only [hs0,hs1,hs4,hs8,hs100]
 clear hc hsz hs0 hs1 hs4 hs8 hs100
 have hi0:(0:Int)<=(i:Int):=Int.natCast_nonneg _
 by_cases hi:i < 64
 ·have hi64:(i:Int) < 64:=by omega
  have hk:=List.getElem?_eq_getElem (l:=ks) (i:=i) (by omega)
  have hw:=List.getElem?_eq_getElem (l:=ws) (i:=i) (by omega)
  have hd:(ks.zip ws).drop i=(ks[i],ws[i]) :: (ks.zip ws).drop (i+1):=by
   rw [List.drop_eq_getElem_cons (by rw [List.length_zip];omega),List.getElem_zip]
  generalize ks[i]=kk at *
  generalize ws[i]=wv at *
  have HK:=zh (And.intro hk (And.intro hw hd))
  clear hk hw hd
  go_upto_block 3 with fail
  rename_i K5 hK5
  refine wp_only (round_any q g sb i v1 x0 x1 x2 x3 x4 x5 x6 x7 kk wv (stA h ks) (wCells ws) _ w hi (HM.out.keep HQ.out.1 (fun e=>hsq e.symm)) (stA_k hh HK.out.1) (HM.out.keep HQ.out.2 (fun e=>hsg e.symm)) (wCells_old HK.out.2.1) HG.out ⟨rfl,rfl,rfl,rfl,rfl,rfl,rfl,trivial⟩) ?_
  rintro a2 w2 ⟨hF,hg2,hm2⟩
  have HG2:=zh hg2
  have HM2:=zh (HM.out.trans hm2)
  clear hg2 hm2 HG
  refine hK5 _ _ ?_
  obtain ⟨ts,ds⟩:=a2
  obtain ⟨hsz,hds,hs0,hs1,hs4,hs8,hs100,-⟩:=hF
  dsimp only at hsz hds hs0 hs1 hs4 hs8 hs100
  subst hds
  obtain ⟨c,rfl,hc⟩:=lit196 ts hsz
  rw [hc] at hs0
  rw [hc] at hs1
  rw [hc] at hs4
  rw [hc] at hs8
  rw [hc] at hs100
  simp only [hs0,hs1,hs4,hs8,hs100]
  clear hc hsz hs0 hs1 hs4 hs8 hs100
  clear hK5 K5
  go_wp2_with fail
  exact Handed.intro (k - 1) (by omega) (HJ2.out _ _ _ ⟨i+1,_,_,_,_,_,_,_,_,by omega,by have h1:=HFO.out;rw [HK.out.2.2] at h1;exact h1,HM2.out,HG2.out,rfl,rfl,rfl,rfl,rfl,rfl,by go_num,trivial⟩)
 ·have hi64:i=64:=by omega
  subst hi64
  have hd:(ks.zip ws).drop 64=[]:=List.drop_eq_nil_of_le (by rw [List.length_zip];omega)
  have HX:=zh (show [x0,x1,x2,x3,x4,x5,x6,x7]=fin by have h1:=HFO.out;rw [hd] at h1;exact h1)
  clear hd
  go_wp2_with fail
  exact Met.intro (HJ.out _ _ ⟨⟨rfl,rfl,rfl,rfl,trivial⟩,⟨_,_,_,_,_,_,_,_,HX.out.symm,HG.out⟩,HM.out⟩)
def LpA (w0:World) (q sb:Nat) (ks S:List Int) (fin:List Int) (k:Nat) (a:Act) (w:World):Prop :=
 ∃ u v y,u.length+k=8/\S.drop u.length=y/\v.length=k/\u++List.zipWith wd v y=fin/\Mod (fun p=>p=q) w0 w/\w.heap[q]? = some (.cells (stA (u++v) ks) 205 (0,0)) ∧
  Fr 196 [(0,.pointer (some ⟨q,0,none⟩)),(8,.pointer (some ⟨sb,0,none⟩)),(179,.int .i64 (u.length:Int))] a
set_option maxRecDepth 100000 in
set_option maxHeartbeats 4000000 in
theorem addeds_any (q sb:Nat) (h ks S:List Int) (f:Act) (w:World) (hh:h.length=8) (hSl:S.length=8) (hsq:sb ≠ q)
  (hq:w.heap[q]? = some (.cells (stA h ks) 205 (0,0)))
  (hs:w.heap[sb]? = some (.cells (S.map (Value.int .u32)).toArray 200 (0,0)))
  (hF:Fr 196 [(0,.pointer (some ⟨q,0,none⟩)),(8,.pointer (some ⟨sb,0,none⟩)),(179,.int .i64 0)] f) :
  Code.wp prog blkT4 (Exit.then (fun a' w'=>Fr 196 [] a'/\w'.heap[q]? = some (.cells (stA (List.zipWith wd h S) ks) 205 (0,0))/\Mod (fun p=>p=q) w w') Nope) f w:=by
 refine wp_part fun J K' hJ hK=>?_
 have H0:=zh (show LpA w q sb ks S (List.zipWith wd h S) 8 f w from ⟨[],h,S,rfl,rfl,hh,rfl,Mod.refl _ w,hq,hF⟩)
 have HS:=zh hs
 have HJ:=zh hJ
 obtain ⟨w0,hw0⟩:∃ w0,w0=w:=⟨_,rfl⟩
 rw [<- hw0] at HS HJ H0
 obtain ⟨fin,hfin⟩:∃ fin,fin=List.zipWith wd h S:=⟨_,rfl⟩
 rw [<- hfin] at HJ H0
 clear hF hJ hs hq hfin hh
 conv=>arg 2;whnf
 go_step
 refine wp_loop_ghost_k (LpA w0 q sb ks S fin) 8 (by rw [hw0] at H0 ⊢;exact H0.out) ?_
 clear H0 hw0 f w h
 intro k f w hI J2 K2 hJ2 hK2
 have HJ2:=zh hJ2
 obtain ⟨u,v,y,huk,hSd,hvk,hfo,hmod,hq,hF⟩:=hI
 have HQ:=zh hq
 have HM:=zh hmod
 have HFO:=zh hfo
 obtain ⟨i,hi⟩:∃ i,i=u.length:=⟨_,rfl⟩
 have HI:=zh hi
 rw [<- hi] at hF huk hSd
 clear hJ2 hq hmod hfo hi
 obtain ⟨ts,ds⟩:=f
 obtain ⟨hsz,hds,hs0,hs8,hs179,-⟩:=hF
 dsimp only at hsz hds hs0 hs8 hs179
 subst hds
 obtain ⟨c,rfl,hc⟩:=lit196 ts hsz
 rw [hc] at hs0
 rw [hc] at hs8
 rw [hc] at hs179
 simp only [hs0,hs8,hs179]
 clear hc hsz hs0 hs8 hs179
 have hi0:(0:Int)<=(i:Int):=Int.natCast_nonneg _
 by_cases hi:i < 8
 ·have hi8:(i:Int) < 8:=by omega
  obtain ⟨x,v',rfl⟩:∃ x v',v=x :: v':=by
   cases v with
   | nil=>simp at hvk;omega
   | cons x v'=>exact ⟨x,v',rfl⟩
  have hS1:=List.getElem?_eq_getElem (l:=S) (i:=i) (by omega)
  have hd:S.drop i=S[i] :: S.drop (i+1):=List.drop_eq_getElem_cons (by omega)
  generalize S[i]=y0 at *
  rw [hd] at hSd
  subst hSd
  have hs1:(S.map (Value.int .u32)).toArray[i]? = some (.int .u32 y0):=by rw [List.getElem?_toArray,List.getElem?_map,hS1];rfl
  have HS1:=zh hs1
  have HX:=zh (show (stA (u++x :: v') ks)[i]? = some (.int .u32 x) by rw [HI.out];exact stA_h)
  have HST:=zh (show (stA (u++x :: v') ks).setIfInBounds i (.int .u32 (wd x y0))=stA ((u++[wd x y0])++v') ks by rw [HI.out];exact stA_set)
  have hvl:v'.length=k - 1:=by simp at hvk;omega
  clear hs1 hS1 hd hvk
  go_upto_block 5 with fail
  rename_i K5 hK5
  refine wp_only (added_any q sb i x y0 _ _ _ w hi HQ.out HX.out (HM.out.keep HS.out hsq) HS1.out ⟨rfl,rfl,rfl,rfl,rfl,trivial⟩) ?_
  rintro a2 w2 ⟨hF,hg2,hm2⟩
  have HG2:=zh hg2
  have HM2:=zh (HM.out.trans hm2)
  clear hg2 hm2 HQ
  refine hK5 _ _ ?_
  obtain ⟨ts,ds⟩:=a2
  obtain ⟨hsz,hds,hs0,hs8,hs179,-⟩:=hF
  dsimp only at hsz hds hs0 hs8 hs179
  subst hds
  obtain ⟨c,rfl,hc⟩:=lit196 ts hsz
  rw [hc] at hs0
  rw [hc] at hs8
  rw [hc] at hs179
  simp only [hs0,hs8,hs179]
  clear hc hsz hs0 hs8 hs179
  clear hK5 K5
  have hu1:(u++[wd x y0]).length=i+1:=by rw [List.length_append,<- HI.out];rfl
  have HU:=zh hu1
  clear hu1
  go_wp2_with fail
  exact Handed.intro (k - 1) (by omega) (HJ2.out _ _ _ ⟨u++[wd x y0],v',S.drop (i+1),by rw [HU.out];omega,by rw [HU.out],hvl,by have h1:=HFO.out;rw [List.zipWith_cons_cons] at h1;rw [List.append_assoc];exact h1,HM2.out,by rw [<- HST.out];exact HG2.out,rfl,rfl,rfl,rfl,by rw [HU.out];go_num,trivial⟩)
 ·have hi8:i=8:=by omega
  subst hi8
  obtain rfl:v=[]:=List.length_eq_zero_iff.1 (by omega)
  have HFI:=zh (show u=fin by have h1:=HFO.out;simpa using h1)
  go_wp2_with fail
  exact Met.intro (HJ.out _ _ ⟨⟨rfl,rfl,trivial⟩,by rw [<- HFI.out];have h1:=HQ.out;rw [List.append_nil] at h1;exact h1,HM.out⟩)
set_option maxRecDepth 100000 in
set_option maxHeartbeats 4000000 in
theorem shaturn_any (b:Nat->Int) (q bb bo bn bc:Nat) (h ks:List Int) (w:World) (hh:h.length=8) (hkl:ks.length=64) (hn:64<=bn)
  (hq:w.heap[q]? = some (.cells (stA h ks) 205 (0,0))) (hb:∀ k,k < 64->w.cell? ⟨bb,bo+k,none⟩=some (.int .u8 (b k))) :
  Calls prog 116 #[.pointer (some ⟨q,0,none⟩),.slice (some ⟨bb,bo,none⟩) bn bc] w fun e w'=>(∃ v,e=.returned v)/\w'.heap[q]? = some (.cells (stA (blockF ks b h) ks) 205 (0,0))/\Mod (fun p=>p=q) w w':=by
 refine calls_hide fun R hR=>?_
 have HB:=zh hb
 have HQ:=zh hq
 clear hb hq
 go_enter func116,ntmps116
 go_upto_block 0 with fail
 rename_i K5 hK5
 obtain ⟨g,hg⟩:∃ g,g=w.heap.size:=⟨_,rfl⟩
 have hql:=lt_of_heap HQ.out
 have hqg:q ≠ g:=by omega
 have hbl:=lt_of_cell (HB.out 0 (by omega))
 dsimp only at hbl
 have hbg:bb ≠ g:=by omega
 rw [<- hg]
 have hg1:(w.alloc (.cells (wCells []) 202)).heap[g]? = some (.cells (wCells []) 202 (0,0)):=by rw [hg];exact heap_alloc_new w _
 have hm1:Mod No w (w.alloc (.cells (wCells []) 202)):=(Mod.refl No w).alloc _
 refine wp_only (words_any b bb bo bn bc g (.pointer (some ⟨q,0,none⟩)) _ (w.alloc (.cells (wCells []) 202)) hn hbg (fun k hk=>hm1.cell (HB.out k hk) (fun f=>f)) hg1 ⟨rfl,rfl,rfl,rfl,rfl,rfl,trivial⟩) ?_
 rintro a2 w2 ⟨hF,hg2,hm2⟩
 have hmw:Mod No w w2:=hm1.then hm2 (fun i hi e=>absurd hi (by omega))
 have HG2:=zh hg2
 have HM2:=zh hmw
 have HQ2:=zh (HM2.out.keep HQ.out (fun f=>f))
 refine hK5 _ _ ?_
 clear hg2 hm2 hm1 hg1 hK5 K5 HQ HB hmw
 obtain ⟨ts,ds⟩:=a2
 obtain ⟨hsz,hds,hs0,hs1,hs4,-⟩:=hF
 dsimp only at hsz hds hs0 hs1 hs4
 subst hds
 obtain ⟨c,rfl,hc⟩:=lit196 ts hsz
 rw [hc] at hs0
 rw [hc] at hs1
 rw [hc] at hs4
 simp only [hs0,hs1,hs4]
 clear hc hsz hs0 hs1 hs4
 obtain ⟨h0,h1,h2,h3,h4,h5,h6,h7,rfl⟩:=len8 hh
 have c0:=cell_ofA (i:=0) HQ2.out (v:=.int .u32 h0) rfl
 have c1:=cell_ofA (i:=1) HQ2.out (v:=.int .u32 h1) rfl
 have c2:=cell_ofA (i:=2) HQ2.out (v:=.int .u32 h2) rfl
 have c3:=cell_ofA (i:=3) HQ2.out (v:=.int .u32 h3) rfl
 have c4:=cell_ofA (i:=4) HQ2.out (v:=.int .u32 h4) rfl
 have c5:=cell_ofA (i:=5) HQ2.out (v:=.int .u32 h5) rfl
 have c6:=cell_ofA (i:=6) HQ2.out (v:=.int .u32 h6) rfl
 have c7:=cell_ofA (i:=7) HQ2.out (v:=.int .u32 h7) rfl
 clear hh
 go_upto_block 2 with fail
 rename_i K5 hK5
 obtain ⟨sb,hsb⟩:∃ sb,sb=w2.heap.size:=⟨_,rfl⟩
 have hql2:=lt_of_heap HQ2.out
 have hgl2:=lt_of_heap HG2.out
 have hsq:sb ≠ q:=by omega
 have hsg:sb ≠ g:=by omega
 rw [<- hsb]
 obtain ⟨w3,hw3⟩:∃ w3,w3=w2.alloc (.cells #[.int .u32 h0,.int .u32 h1,.int .u32 h2,.int .u32 h3,.int .u32 h4,.int .u32 h5,.int .u32 h6,.int .u32 h7] 200):=⟨_,rfl⟩
 have hg3:w3.heap[sb]? = some (.cells #[.int .u32 h0,.int .u32 h1,.int .u32 h2,.int .u32 h3,.int .u32 h4,.int .u32 h5,.int .u32 h6,.int .u32 h7] 200 (0,0)):=by rw [hw3,hsb];exact heap_alloc_new w2 _
 have hm3:Mod No w2 w3:=by rw [hw3];exact (Mod.refl No w2).alloc _
 rw [<- hw3]
 refine wp_only (rounds_any q g sb (.slice (some ⟨bb,bo,none⟩) bn bc) h0 h1 h2 h3 h4 h5 h6 h7 _ ks (wordsF b 64) _ w3 rfl hkl (wordsF_length b 64) hsq hsg (hm3.keep HQ2.out (fun f=>f)) (hm3.keep HG2.out (fun f=>f)) hg3 ⟨rfl,rfl,rfl,rfl,rfl,rfl,rfl,trivial⟩) ?_
 rintro a4 w4 ⟨hF,⟨y0,y1,y2,y3,y4,y5,y6,y7,hfo,hs4⟩,hm4⟩
 have HM4:=zh (HM2.out.then (hm3.then hm4 (S:=No) (fun i hi e=>absurd hi (by omega))) (fun i hi f=>f))
 have HQ4:=zh ((hm3.then hm4 (S:=No) (fun i hi e=>absurd hi (by omega))).keep HQ2.out (fun f=>f))
 have HS4:=zh hs4
 have HFO:=zh hfo
 refine hK5 _ _ ?_
 clear hs4 hfo hm3 hm4 hg3 hw3 hK5 K5 HQ2 HG2 HM2 c0 c1 c2 c3 c4 c5 c6 c7 c
 obtain ⟨ts,ds⟩:=a4
 obtain ⟨hsz,hds,hs0,hs8,-⟩:=hF
 dsimp only at hsz hds hs0 hs8
 subst hds
 obtain ⟨c,rfl,hc⟩:=lit196 ts hsz
 rw [hc] at hs0
 rw [hc] at hs8
 simp only [hs0,hs8]
 clear hc hsz hs0 hs8
 go_upto_block 4 with fail
 refine wp_mono (addeds_any q sb [h0,h1,h2,h3,h4,h5,h6,h7] ks [y0,y1,y2,y3,y4,y5,y6,y7] _ w4 rfl rfl hsq HQ4.out HS4.out ⟨rfl,rfl,rfl,rfl,rfl,trivial⟩) ?_
 rintro e a6 w6 hq
 cases e with
 | normal =>
  obtain ⟨hF,hq6,hm6⟩:=hq
  have HM6:=zh ((HM4.out.weaken fun _ _ f=>f.elim:Mod (fun p=>p=q) w w4).trans hm6)
  refine bodyPost_end (v:=.tuple #[]) (by simp [results,results116,go_sem]) hF.defers (fin hR ⟨⟨_,rfl⟩,by unfold blockF;rw [HFO.out];exact hq6,HM6.out⟩)
 | exit id=>exact hq.elim
 | goto l=>exact hq.elim
 | ret=>exact hq.elim
 | panic ch=>exact hq.elim
 | outgrown=>exact hq.elim
set_option maxRecDepth 100000 in
set_option maxHeartbeats 4000000 in
theorem shabegin_any (w:World) :
  Calls prog 114 #[] w fun e w'=>e=.returned (.agg (c8 h0))/\Mod No w w':=by
 refine calls_hide fun R hR=>?_
 go_enter func114,ntmps114
 go_upto_region 1 with fail
 rename_i K hK
 have HK:=zh hK
 clear hK
 refine wp_region_lit ?_
 refine wpList_builtAs rfl 200 _ rfl (c8 h0) (by kernel_rfl) ?_
 refine wpList_store_row rfl 200 _ _ rfl w.heap.size (c8 h0) rfl rfl 200 _ (heap_alloc_new w _) (by kernel_rfl) (by kernel_rfl) (by kernel_rfl) ?_
 refine HK.out _ _ ?_
 refine wp_ret ?_
 exact bodyPost_ret (results_cell_row rfl _ _ w.heap.size 200 (c8 h0) (0,0) _ rfl (setRow_heap _ _ _ _ _ _ (heap_alloc_new w _)) underlying200 (by kernel_rfl) (by kernel_rfl)) rfl (fin hR ⟨rfl,(Mod.alloc (Mod.refl No w) _).then (T:=fun p=>p=w.heap.size) ⟨rfl,rfl,rfl,by simp [World.setRow],fun k hk hn=>setRow_other _ _ k _ hn⟩ (fun i hi e=>absurd hi (by omega))⟩)
set_option maxRecDepth 100000 in
set_option maxHeartbeats 4000000 in
theorem rounds0_any (w:World) :
  Calls prog 115 #[] w fun e w'=>e=.returned (.agg (c8 k0))/\Mod No w w':=by
 refine calls_hide fun R hR=>?_
 go_enter func115,ntmps115
 go_upto_region 1 with fail
 rename_i K hK
 have HK:=zh hK
 clear hK
 refine wp_region_lit ?_
 refine wpList_builtAs rfl 202 _ rfl (c8 k0) (by kernel_rfl) ?_
 refine wpList_store_row rfl 202 _ _ rfl w.heap.size (c8 k0) rfl rfl 202 _ (heap_alloc_new w _) (by kernel_rfl) (by kernel_rfl) (by kernel_rfl) ?_
 refine HK.out _ _ ?_
 refine wp_ret ?_
 exact bodyPost_ret (results_cell_row rfl _ _ w.heap.size 202 (c8 k0) (0,0) _ rfl (setRow_heap _ _ _ _ _ _ (heap_alloc_new w _)) underlying202 (by kernel_rfl) (by kernel_rfl)) rfl (fin hR ⟨rfl,(Mod.alloc (Mod.refl No w) _).then (T:=fun p=>p=w.heap.size) ⟨rfl,rfl,rfl,by simp [World.setRow],fun k hk hn=>setRow_other _ _ k _ hn⟩ (fun i hi e=>absurd hi (by omega))⟩)
theorem SvX.dropN {X:Nat->Prop} {w:World} {b o n c m:Nat} {xs:List Value} (h:SvX w X (.slice (some ⟨b,o,none⟩) n c) n xs) (hx:xs.length=n) (h0:0 < n) (hm:m<=n) :
  SvX w X (.slice (if c=m then some ⟨b,o,none⟩ else some ⟨b,o+m,none⟩) (n - m) (c - m)) (n - m) (xs.drop m):=by
 obtain ⟨e,h⟩:=h.get h0
 exact SvX.of (h.dropN hx hm)
theorem SvX.bytes {X:Nat->Prop} {w:World} {b o n c:Nat} {l:List UInt8} (h:SvX w X (.slice (some ⟨b,o,none⟩) n c) n (bv l)) {k:Nat} (hk:k < l.length):w.cell? ⟨b,o+k,none⟩=some (.int .u8 (bf l k)):=by
 have hb:k < (bv l).length:=by rw [bv_length];exact hk
 rw [h.cellN hb]
 have h2:=bv_bf hk
 rw [List.getElem?_eq_getElem hb] at h2
 exact h2
noncomputable def bodyM:Code:=Tryz.f52.body.getD .skip
noncomputable def blkM4:Code:=(blockAt 4 bodyM).getD .skip
set_option maxRecDepth 100000 in
theorem lit128 (t:Array Value) (h:t.size=128):∃ c:Nat->Value,t=#[c 0,c 1,c 2,c 3,c 4,c 5,c 6,c 7,c 8,c 9,c 10,c 11,c 12,c 13,c 14,c 15,c 16,c 17,c 18,c 19,c 20,c 21,c 22,c 23,c 24,c 25,c 26,c 27,c 28,c 29,c 30,c 31,c 32,c 33,c 34,c 35,c 36,c 37,c 38,c 39,c 40,c 41,c 42,c 43,c 44,c 45,c 46,c 47,c 48,c 49,c 50,c 51,c 52,c 53,c 54,c 55,c 56,c 57,c 58,c 59,c 60,c 61,c 62,c 63,c 64,c 65,c 66,c 67,c 68,c 69,c 70,c 71,c 72,c 73,c 74,c 75,c 76,c 77,c 78,c 79,c 80,c 81,c 82,c 83,c 84,c 85,c 86,c 87,c 88,c 89,c 90,c 91,c 92,c 93,c 94,c 95,c 96,c 97,c 98,c 99,c 100,c 101,c 102,c 103,c 104,c 105,c 106,c 107,c 108,c 109,c 110,c 111,c 112,c 113,c 114,c 115,c 116,c 117,c 118,c 119,c 120,c 121,c 122,c 123,c 124,c 125,c 126,c 127]/\∀ i,t.getD i undef=c i:=by
 refine ⟨fun i=>t.getD i undef,?_,fun _=>rfl⟩
 have h1:=arr_lits t
 rw [h] at h1
 exact h1.trans (by kernel_rfl)
def LpF (w0:World) (X:Nat->Prop) (l:List UInt8) (q:Nat) (h:List Int) (v2 v4 v5 v20 v21 v22:Value) (k:Nat) (a:Act) (w:World):Prop :=
 ∃ i V,i+k=l.length / 64/\Mod (fun p=>p=q) w0 w/\w.heap[q]? = some (.cells (stA (runF k0 i (bf l) h) k0) 205 (0,0))/\SvX w X V (l.length - 64*i) (bv (l.drop (64*i))) ∧
  Fr 128 [(2,v2),(3,.pointer (some ⟨q,0,none⟩)),(4,v4),(5,v5),(7,V),(20,v20),(21,v21),(22,v22)] a
set_option maxRecDepth 100000 in
set_option maxHeartbeats 4000000 in
theorem fulls_any (X:Nat->Prop) (l:List UInt8) (q:Nat) (h:List Int) (v2 v4 v5 v20 v21 v22 V:Value) (f:Act) (w:World) (hX:X q) (hh:h.length=8)
  (hq:w.heap[q]? = some (.cells (stA h k0) 205 (0,0))) (hV:SvX w X V l.length (bv l))
  (hF:Fr 128 [(2,v2),(3,.pointer (some ⟨q,0,none⟩)),(4,v4),(5,v5),(7,V),(20,v20),(21,v21),(22,v22)] f) :
  Code.wp prog blkM4 (Exit.then (fun a' w'=>(∃ V',Fr 128 [(2,v2),(3,.pointer (some ⟨q,0,none⟩)),(4,v4),(5,v5),(7,V'),(20,v20),(21,v21),(22,v22)] a'/\SvX w' X V' (l.length % 64) (bv (l.drop (64*(l.length / 64))))) ∧
   w'.heap[q]? = some (.cells (stA (runF k0 (l.length / 64) (bf l) h) k0) 205 (0,0))/\Mod (fun p=>p=q) w w') Nope) f w:=by
 refine wp_part fun J K' hJ hK=>?_
 have H0:=zh (show LpF w X l q h v2 v4 v5 v20 v21 v22 (l.length / 64) f w from ⟨0,V,by omega,Mod.refl _ w,hq,hV,hF⟩)
 have HJ:=zh hJ
 have HX:=zh hX
 obtain ⟨w0,hw0⟩:∃ w0,w0=w:=⟨_,rfl⟩
 rw [<- hw0] at HJ H0
 clear hF hJ hq hV hX
 conv=>arg 2;whnf
 go_step
 refine wp_loop_ghost_k (LpF w0 X l q h v2 v4 v5 v20 v21 v22) (l.length / 64) (by rw [hw0] at H0 ⊢;exact H0.out) ?_
 clear H0 hw0 f w V
 intro k f w hI J2 K2 hJ2 hK2
 have HJ2:=zh hJ2
 obtain ⟨i,V,hik,hmod,hq,hV,hF⟩:=hI
 have HQ:=zh hq
 have HM:=zh hmod
 have HV:=zh hV
 clear hJ2 hq hmod
 obtain ⟨n,hn⟩:∃ n,n=l.length - 64*i:=⟨_,rfl⟩
 rw [<- hn] at hV HV
 have hdl:(l.drop (64*i)).length=n:=by rw [List.length_drop,hn]
 obtain ⟨va,vc,rfl⟩:=hV.len
 clear hV
 obtain ⟨ts,ds⟩:=f
 obtain ⟨hsz,hds,hs2,hs3,hs4,hs5,hs7,hs20,hs21,hs22,-⟩:=hF
 dsimp only at hsz hds hs2 hs3 hs4 hs5 hs7 hs20 hs21 hs22
 subst hds
 obtain ⟨c,rfl,hc⟩:=lit128 ts hsz
 rw [hc] at hs2
 rw [hc] at hs3
 rw [hc] at hs4
 rw [hc] at hs5
 rw [hc] at hs7
 rw [hc] at hs20
 rw [hc] at hs21
 rw [hc] at hs22
 simp only [hs2,hs3,hs4,hs5,hs7,hs20,hs21,hs22]
 clear hc hsz hs2 hs3 hs4 hs5 hs7 hs20 hs21 hs22
 by_cases hi:64<=n
 ·obtain ⟨bb,bo,vc',hVe,hb1,hb2,hb3⟩:=HV.out.shape (by omega)
  cases hVe
  have hi64:(64:Int)<=(n:Int):=by omega
  have HT:=zh (fun W (hq:W.heap[q]? = some (.cells (stA (runF k0 i (bf l) h) k0) 205 (0,0))) (hb:∀ k,k < 64->W.cell? ⟨bb,bo+k,none⟩=some (.int .u8 (bf (l.drop (64*i)) k)))=>shaturn_any (bf (l.drop (64*i))) q bb bo n vc (runF k0 i (bf l) h) k0 W (runF_length k0 i (bf l) h hh) rfl hi hq hb)
  have hcap:(64:Int)<=(vc:Int):=by omega
  have HD:=zh (HV.out.dropN (m:=64) (by simp [bv];omega) (by omega) hi)
  have HBY:=zh (fun k (hk:k < 64)=>HV.out.bytes (k:=k) (by omega))
  have HNUM:=zh (And.intro hn (And.intro hdl hik))
  clear hn hdl
  go_wp2_with fail
  refine (HT.out w HQ.out HBY.out).mono ?_
  rintro e w2 ⟨⟨v,rfl⟩,hq2,hm2⟩
  have HQ2:=zh hq2
  have HM2:=zh (HM.out.trans hm2)
  have HD2:=zh (HD.out.keep hm2 (fun p cur fz e hx=>hx (by rw [show p=q from e];exact HX.out)))
  have HQ3:=zh (show w2.heap[q]? = some (.cells (stA (runF k0 (i+1) (bf l) h) k0) 205 (0,0)) by
   rw [show runF k0 (i+1) (bf l) h=blockF k0 (bf (l.drop (64*i))) (runF k0 i (bf l) h) by
    rw [runF_last];exact blockF_congr (fun k _=>(bf_drop l (64*i) k).symm) _]
   exact hq2)
  have hbd:(bv (l.drop (64*i))).drop 64=bv (l.drop (64*(i+1))):=by rw [<- bv_drop,List.drop_drop];congr 2
  have HBD:=zh hbd
  clear hbd
  clear hq2 hm2 HQ HM HT HBY HD HQ2
  by_cases hc:vc=64
  ·have hn64:n=64:=by omega
   subst hc hn64
   have HD3:=zh (show SvX w2 X (.slice (some ⟨bb,bo,none⟩) 0 0) 0 ((bv (l.drop (64*i))).drop 64) from by simpa using HD2.out)
   clear HD2
   have HN:=zh (show l.length - 64*(i+1)=0 by have:=HNUM.out;omega)
   go_wp2_with fail
   exact Handed.intro (k - 1) (by have:=HNUM.out;omega) (HJ2.out _ _ _ ⟨i+1,_,by have:=HNUM.out;omega,HM2.out,HQ3.out,by rw [HN.out,<- HBD.out];exact HD3.out,rfl,rfl,rfl,rfl,rfl,rfl,rfl,rfl,rfl,rfl,trivial⟩)
  ·have hc1:(64:Int) < (vc:Int):=by omega
   have hc2:¬ ((vc:Int) - 64=0):=by omega
   have HD3:=zh (show SvX w2 X (.slice (some ⟨bb,bo+64,none⟩) (n - 64) (vc - 64)) (n - 64) ((bv (l.drop (64*i))).drop 64) from by simpa [hc] using HD2.out)
   clear HD2
   have HN:=zh (show l.length - 64*(i+1)=n - 64 by have:=HNUM.out;omega)
   go_wp2_with fail
   exact Handed.intro (k - 1) (by have:=HNUM.out;omega) (HJ2.out _ _ _ ⟨i+1,_,by have:=HNUM.out;omega,HM2.out,HQ3.out,by rw [HN.out,<- HBD.out];exact HD3.out,rfl,rfl,rfl,rfl,rfl,rfl,rfl,rfl,rfl,rfl,trivial⟩)
 ·have hi64:(n:Int) < 64:=by omega
  have hk0:i=l.length / 64:=by omega
  have hr0:n=l.length % 64:=by omega
  subst hr0 hk0
  go_wp2_with fail
  exact Met.intro (HJ.out _ _ ⟨⟨_,⟨rfl,rfl,rfl,rfl,rfl,rfl,rfl,rfl,rfl,rfl,trivial⟩,HV.out⟩,HQ.out,HM.out⟩)
end Go.Proofs.YtmppeipgjcjdkaaGreatDoor
namespace Go.Proofs.YtmppeipgjcjdkaaGreatDoor
open _root_.Go.Proofs.Tryz
open Go.RowKit Go.Maps
theorem SvX.keepM {S X:Nat->Prop} {w w':World} {v:Value} {n:Nat} {xs:List Value} (h:SvX w X v n xs) (hm:Mod S w w') (hs:∀ (k:Nat) (cur:Array Value) (e:TypeId) (fz:Nat × Nat),S k->w.heap[k]? ≠ some (.cells cur e fz)):SvX w' X v n xs :=
 ⟨h.1,h.2.imp id fun ⟨e,h⟩=>⟨e,h.keep hm fun k cur fz a _ hc=>hs k cur e fz a hc⟩⟩
set_option maxRecDepth 100000 in
set_option maxHeartbeats 1000000 in
theorem clone_sv (v:Value) (l:List Value) (w:World) (h:SvX w No v l.length l) (h1:∀ u ∈ l,u.oneCell'=true) (hsz:l.length<=140737488355328) :
  Calls prog 81 #[v] w fun e w'=>(∃ v',e=.returned v'/\w'.ownsRow w.heap.size 5 1 v' l.length l)/\Mod No w w':=by
 obtain ⟨i0,hi,hz0,hz1,hz2⟩:=info_parts info_u8
 refine calls_hide fun R hR=>?_
 obtain ⟨⟨a,c,rfl⟩,h⟩:=h
 have e1:=Lib.run_eql_slice_nil (P:=prog)
 cases a with
 | none =>
  have hl:l=[]:=by
   rcases h with ⟨_,h⟩ | ⟨e,⟨_,_,h⟩ | ⟨blk,o,c,cur,fz,hv,_⟩⟩
   ·exact h
   ·exact h
   ·cases hv
  subst hl
  clear h
  go_enter func81,ntmps81
  go_wp2
  exact fin hR ⟨⟨.slice none 0 0,rfl,World.ownsRow_nil _ _ _ _⟩,Mod.refl _ _⟩
 | some ad =>
  have hown:(w.alloc (.cells #[] 5)).ownsRow w.heap.size 5 1 (.slice (some ⟨w.heap.size,0,none⟩) 0 0) 0 []:=World.ownsRow_lit w #[] 0 (Nat.le_refl _) (by unfold maxLen;omega) rfl
  have HO:=zh hown
  clear hown
  have key:∀ (u:Value) (W:World),W.ownsRow w.heap.size 5 1 u l.length l->(w.alloc (.cells #[] 5)).grownBy W (some w.heap.size)->R (.returned u) W:=fun u W h1 h2 =>
   fin hR ⟨⟨u,rfl,h1⟩,((Mod.refl No w).alloc _).then (Mod.of_grown (S:=fun k=>k=w.heap.size) h2 (by rintro k ⟨⟩ _;rfl)) (fun i hi e=>by subst e;omega)⟩
  have HK:=zh key
  clear key
  rcases h with ⟨hn,h⟩ | ⟨e,h⟩
  ·subst h
   go_enter func81,ntmps81
   go_wp2_with (at_builtin;refine wpList_append_own _ rfl _ _ 41 rfl w.heap.size 5 i0 (.int .u8 0) 1 1 underlying41 hi hz0 hz1 hz2 rfl (by decide) _ _ _ rfl HO.out ad 0 c [] rfl rfl (fun j u hu=>by simp at hu) (fun u hu=>by cases hu) ?_ ?_ ?_ ?_)
   ·unfold maxLen;omega
   ·omega
   ·simp
   intro v' w1 hown' hg _
   have HO':=zh hown'
   have HG:=zh hg
   clear hown' hg
   go_wp2
   exact HK.out _ _ HO'.out HG.out
  ·have hsl:Sl (w.alloc (.cells #[] 5)) No e (.slice (some ad) l.length c) l.length l:=h.keep (S:=No) ((Mod.refl No w).alloc _) (fun _ _ _ f=>f.elim)
   have HS:=zh hsl
   clear hsl h
   go_enter func81,ntmps81
   go_wp2_with (at_builtin;refine app_sl _ rfl _ _ 41 rfl w.heap.size 5 i0 (.int .u8 0) 1 1 underlying41 hi hz0 hz1 hz2 rfl (by decide) _ _ _ rfl HO.out No e _ _ _ rfl HS.out ?_ h1 ?_ ?_ ?_ ?_)
   ·simp
   ·unfold maxLen;omega
   ·omega
   ·simp
   intro v' w1 hown' hg _
   have HO':=zh (show w1.ownsRow w.heap.size 5 1 v' l.length l by simpa using hown')
   have HG:=zh hg
   clear hown' hg
   go_wp2
   exact HK.out _ _ HO'.out HG.out
end Go.Proofs.YtmppeipgjcjdkaaGreatDoor
