/-
  Layers 0 to 14: helps of the laws of indexes. No statement is proved here; no condition.
-/
import Derived.Test.YtgiigemfbebcgaaGreatDoorU06
import Derived.Test.YtgiigemfbebcgaaGreatDoorU04
import Derived.Lib.ConvBytes
namespace Go.Proofs.YtgiigemfbebcgaaGreatDoor
open _root_.Go.Proofs.Tryz
open Go.RowKit
theorem run_row {P:Program} {w:World} {g:Nat} {t:TypeId} {old:Array Value} {vs:List Value} (hg:w.heap[g]? = some (.cells old t (0,0))) (ho:old.size=vs.length) (h1:∀ v ∈ vs,v.oneCell'=true) :
  Sem.run P (storeCells ⟨g,0,none⟩ vs 0) w=.ok () (w.setRow g vs.toArray):=by
 have:=run_storeCells_from (P:=P) g t vs 0 old w hg (by omega) h1
 simpa using this
theorem Mod.setRow {S:Nat->Prop} {w w':World} (h:Mod S w w') {g:Nat} (hg:g < w.heap.size->S g) (cs:Array Value):Mod S w (w'.setRow g cs) :=
 h.then (T:=fun p=>p=g) ⟨rfl,rfl,rfl,by simp [World.setRow],fun k hk hn=>setRow_other _ _ k _ hn⟩ (fun i hi e=>by cases e;exact hg hi)
abbrev keyV (K:List UInt8):Value:=.agg (bv K).toArray
theorem key_size {K:List UInt8} (h:K.length=32):(prog.info? 43).map (·.size)=some (bv K).toArray.size:=by
 rw [show (bv K).toArray.size=32 by simp [h]]
 kernel_rfl
set_option maxRecDepth 100000 in
set_option maxHeartbeats 4000000 in
theorem refof_any (l:List UInt8) (pb po pc:Nat) (V:Value) (w:World) (hl:l.length<=70368744177664) (hp:w.cell? ⟨pb,po,none⟩=some V) (hV:Sl w No 5 V l.length (bv l)) :
  Calls prog 35 #[.slice (some ⟨pb,po,none⟩) 1 pc] w fun e w'=>e=.returned (.agg (bv (sumF l)).toArray)/\Mod No w w':=by
 refine calls_hide fun R hR=>?_
 obtain ⟨i0,hi,hz0,hz1,hz2⟩:=info_parts info_byte
 obtain ⟨va,vc,rfl⟩:=hV.len
 obtain ⟨n,hn⟩:∃ n,n=l.length:=⟨_,rfl⟩
 rw [<- hn] at hV hp
 have HN:=zh hn
 have HV:=zh hV
 have HP:=zh hp
 clear hV hp hn
 go_enter func35,ntmps35
 go_upto_region 1 with fail
 rename_i K1 hK1
 obtain ⟨b2,hb2⟩:∃ b,b=w.heap.size:=⟨_,rfl⟩
 rw [<- hb2]
 generalize hw0:World.alloc w _=w0
 have HM0:=zh (show Mod No w w0 by rw [<- hw0];exact (Mod.refl No w).alloc _)
 have HB0:=zh (show w0.heap[b2]? = some (.cells (bv (List.replicate 32 0)).toArray 43 (0,0)) by
  rw [<- hw0,hb2];exact heap_alloc_new w _)
 have HB2:=zh hb2
 clear hw0 hb2
 have c0:=HM0.out.cell HP.out (fun f=>f)
 go_wp2_with fail
 refine wp_loop_rounds 2 ?_
 rw [rounds_succ]
 go_wp2_with (at_builtin;refine app_sl _ rfl _ _ 29 rfl w0.heap.size 5 i0 (.int .u8 0) 1 1 underlying29 hi hz0 hz1 hz2 rfl (by decide) (.slice none 0 0) 0 [] rfl (World.ownsRow_nil _ _ _ _) No 5 _ n (bv l) rfl (HV.out.kn HM0.out) (by rw [bv_length,HN.out,Nat.mul_one]) (bv_one _) (by have:=HN.out;unfold maxLen;omega) (by have:=HN.out;omega) (Nat.le_refl _) ?_;intro v3 w3 hown hg hiff;rw [Nat.zero_add,List.nil_append] at hown;have HO3:=zh (And.intro hown hg);clear hown hg hiff)
 rw [rounds_succ]
 have HM3:=zh (HM0.out.trans (Mod.of_grown HO3.out.2 (fun k e _=>by cases e)))
 have HB3:=zh ((Mod.of_grown (S:=No) HO3.out.2 (fun k e _=>by cases e)).keep HB0.out (fun f=>f))
 have HS3:=zh (show Sl w3 No 5 v3 l.length (bv l) from Sl.of_own (by have:=HO3.out.1;rw [HN.out] at this;exact this) (fun _ _ f=>f))
 clear HM0 HB0 HO3 c0
 go_wp2_with fail
 refine (refsum_any l v3 _ hl HS3.out).mono ?_
 rintro e w4 ⟨rfl,hm4⟩
 have HM4:=zh (HM3.out.trans hm4)
 have hb4:=hm4.keep HB3.out (fun f=>f)
 have HS:=zh (sumF_length l)
 generalize sumF l=K at *
 clear hm4 HM3 HB3 HS3
 go_wp2_with fail
 rw [run_row hb4 (by simp [HS.out]) (bv_one _)]
 obtain ⟨w5,hw5⟩:∃ y,y=w4.setRow b2 (bv K).toArray:=⟨_,rfl⟩
 have hb5:w5.heap[b2]? = some (.cells (bv K).toArray 43 (0,0)):=by rw [hw5];exact setRow_heap _ _ _ _ _ _ hb4
 have HM5:=zh (show Mod No w w5 by rw [hw5];exact HM4.out.setRow (fun h=>by have:=HB2.out;omega) _)
 rw [<- hw5]
 clear hw5 hb4 HM4
 go_wp2_with fail
 exact bodyPost_ret (results_cell_row rfl _ _ b2 43 (bv K).toArray (0,0) _ rfl hb5 underlying43 (by kernel_rfl) (key_size HS.out)) rfl (fin hR ⟨rfl,HM5.out⟩)
set_option maxRecDepth 100000 in
theorem lit22 (t:Array Value) (h:t.size=22):∃ c:Nat->Value,t=#[c 0,c 1,c 2,c 3,c 4,c 5,c 6,c 7,c 8,c 9,c 10,c 11,c 12,c 13,c 14,c 15,c 16,c 17,c 18,c 19,c 20,c 21]/\∀ i,t.getD i undef=c i:=by
 refine ⟨fun i=>t.getD i undef,?_,fun _=>rfl⟩
 have h1:=arr_lits t
 rw [h] at h1
 exact h1.trans (by kernel_rfl)
def digs:List UInt8:=[48,49,50,51,52,53,54,55,56,57,97,98,99,100,101,102]
def digit (n:Nat):UInt8:=digs.getD n 0
def hexL (S:List UInt8):List UInt8:=S.flatMap fun c=>[digit (c.toNat / 16),digit (c.toNat % 16)]
theorem hexL_length (S:List UInt8):(hexL S).length=2*S.length:=by
 unfold hexL
 induction S with
 | nil=>rfl
 | cons c S ih=>rw [List.flatMap_cons,List.length_append,ih,List.length_cons];simp;omega
theorem hexL_take {S:List UInt8} {i:Nat} (h:i < S.length):hexL (S.take (i+1))=hexL (S.take i)++[digit ((S.getD i 0).toNat / 16),digit ((S.getD i 0).toNat % 16)]:=by
 have e:S[i]=S.getD i 0:=by rw [List.getD_eq_getElem?_getD,List.getElem?_eq_getElem h];rfl
 rw [List.take_succ_eq_append_getElem h,e]
 simp [hexL]
theorem and15 (y:Nat) (h:y < 256):bits .and .u8 (y:Int) 15=((y % 16:Nat):Int):=by
 have hx:y &&& 15 < 2 ^ 8:=Nat.and_lt_two_pow _ (by omega)
 have h1:(BitVec.ofInt 8 (y:Int)).toNat=y:=by rw [BitVec.ofInt_natCast,BitVec.toNat_ofNat];exact Nat.mod_eq_of_lt (by omega)
 have e:y &&& 15=y % 2 ^ 4:=Nat.and_two_pow_sub_one_eq_mod y 4
 show IntKind.u8.wrap ((BitVec.ofInt 8 (y:Int) &&& BitVec.ofInt 8 15).toNat:Int)=_
 rw [BitVec.toNat_and,h1,show (BitVec.ofInt 8 15).toNat=15 from rfl,e]
 have h2:IntKind.u8.wrap ((y % 2 ^ 4:Nat):Int)=((y % 2 ^ 4:Nat):Int):=by rw [IntKind.wrap_u8];omega
 rw [h2]
theorem run_dig (n:Nat) (h:n < 16) (W:World):(Instr.index 9 (.string ⟨#[48,49,50,51,52,53,54,55,56,57,97,98,99,100,101,102]⟩) (.int .u8 (n:Int))).run prog W=.ok (.int .u8 ((digit n).toNat:Int)) W:=by
 have hi:(0:Int)<=(n:Int)/\(n:Int) < ((⟨#[48,49,50,51,52,53,54,55,56,57,97,98,99,100,101,102]⟩:ByteArray).size:Int):=⟨Int.natCast_nonneg _,by show (n:Int) < 16;omega⟩
 rw [run_index_string W 9 _ .u8 n underlying9,dif_pos hi]
 match n,h with
 | 0,_=>rfl
 | 1,_=>rfl
 | 2,_=>rfl
 | 3,_=>rfl
 | 4,_=>rfl
 | 5,_=>rfl
 | 6,_=>rfl
 | 7,_=>rfl
 | 8,_=>rfl
 | 9,_=>rfl
 | 10,_=>rfl
 | 11,_=>rfl
 | 12,_=>rfl
 | 13,_=>rfl
 | 14,_=>rfl
 | 15,_=>rfl
 | k+16,h=>exact absurd h (by omega)
theorem run_index_key {S:List UInt8} (hS:S.length=32) {i:Nat} (hi:i < 32) (W:World):(Instr.index 43 (keyV S) (.int .i64 (i:Int))).run prog W=.ok (.int .u8 ((S.getD i 0).toNat:Int)) W:=by
 have h1:0<=(i:Int)/\(i:Int) < 32:=by omega
 have h2:(bv S)[i]? = some (.int .u8 ((S.getD i 0).toNat:Int)):=bv_bf (by omega)
 simp [Instr.index,run_underlying underlying43,asIntOf,h1]
 rw [if_pos hi]
 have h4:(isAgg 5).run prog W=.ok false W:=by kernel_rfl
 have h3:(bv S).toArray[i]? = some (.int .u8 ((S.getD i 0).toNat:Int)):=by rw [List.getElem?_toArray];exact h2
 unfold part
 simp only [Sem.run_bind,h4,Result.andThen_ok,h3,Bool.false_eq_true,if_false,Sem.run_pure]
 rw [List.getD_eq_getElem?_getD]
noncomputable def bodyH:Code:=Tryz.f72.body.getD .skip
noncomputable def blkH1:Code:=(blockAt 1 bodyH).getD .skip
noncomputable def blkH0:Code:=(blockAt 0 bodyH).getD .skip
set_option maxRecDepth 100000 in
set_option maxHeartbeats 4000000 in
theorem hexstep_any (S:List UInt8) (hS:S.length=32) (base i n:Nat) (v:Value) (a:Act) (w:World) (hi:i < 32) (hn:n=2*i) (hb:base<=w.heap.size) (hown:w.ownsRow base 5 1 v n (bv (hexL (S.take i))))
  (hF:Fr 22 [(3,v),(6,keyV S),(7,.int .i64 (i:Int))] a) :
  Code.wp prog blkH1 (Exit.then (fun a' w'=>(∃ v',Fr 22 [(3,v'),(6,keyV S),(7,.int .i64 (i:Int))] a'/\w'.ownsRow base 5 1 v' (n+2) (bv (hexL (S.take (i+1)))))/\base<=w'.heap.size/\Mod (fun p=>base<=p) w w') Nope) a w:=by
 refine wp_part fun J K' hJ hK=>?_
 obtain ⟨i0,hi0,hz0,hz1,hz2⟩:=info_parts info_byte
 have HJ:=zh hJ
 clear hJ
 obtain ⟨ts,ds⟩:=a
 obtain ⟨hsz,hds,hs3,hs6,hs7,-⟩:=hF
 dsimp only at hsz hds hs3 hs6 hs7
 subst hds
 obtain ⟨c,rfl,hc⟩:=lit22 ts hsz
 rw [hc] at hs3
 rw [hc] at hs6
 rw [hc] at hs7
 simp only [hs3,hs6,hs7]
 clear hc hsz hs3 hs6 hs7
 have RK:=run_index_key hS hi
 have HT:=zh (hexL_take (S:=S) (i:=i) (by omega))
 generalize hy:(S.getD i 0).toNat=y at *
 have hy2:y < 256:=by rw [<- hy];exact UInt8.toNat_lt _
 have HH:=zh hn
 have hn64:n<=62:=by omega
 obtain ⟨q,hq⟩:∃ q,q=y / 16:=⟨_,rfl⟩
 obtain ⟨r,hr⟩:∃ r,r=y % 16:=⟨_,rfl⟩
 obtain ⟨d1,hd1⟩:∃ d,d=(digit q).toNat:=⟨_,rfl⟩
 obtain ⟨d2,hd2⟩:∃ d,d=(digit r).toNat:=⟨_,rfl⟩
 have EQ:=zh (show (y:Int) / 16=(q:Int) by omega)
 have ER:=zh (show bits .and .u8 (y:Int) 15=(r:Int) by rw [and15 y hy2,hr])
 have RQ:=zh (fun W=>show (Instr.index 9 (.string ⟨#[48,49,50,51,52,53,54,55,56,57,97,98,99,100,101,102]⟩) (.int .u8 (q:Int))).run prog W=.ok (.int .u8 (d1:Int)) W by rw [hd1];exact run_dig q (by omega) W)
 have RR:=zh (fun W=>show (Instr.index 9 (.string ⟨#[48,49,50,51,52,53,54,55,56,57,97,98,99,100,101,102]⟩) (.int .u8 (r:Int))).run prog W=.ok (.int .u8 (d2:Int)) W by rw [hd2];exact run_dig r (by omega) W)
 have HTT:=zh (show bv (hexL (S.take (i+1)))=bv (hexL (S.take i))++[.int .u8 (d1:Int),.int .u8 (d2:Int)] by rw [HT.out,bv_append,hd1,hd2,hq,hr];rfl)
 have HO:=zh hown
 have HB:=zh hb
 clear hy hq hr hd1 hd2 HT hown hb hn
 conv=>arg 2;whnf
 go_upto_region 5 with fail
 obtain ⟨wA,hwA⟩:∃ y,y=w.drew:=⟨_,rfl⟩
 have HWA:=zh hwA
 have HMA:=zh (show Mod No w wA by rw [hwA];exact (Mod.refl No w).drew)
 have HOA:=zh (own_keepM HO.out HMA.out (fun _ _ f=>f))
 have HBA:=zh (Nat.le_trans HB.out HMA.out.size)
 have hS0:True:=trivial
 clear hwA
 refine wp_region_T (fun _=>True) 99 (by kernel_rfl) ?_
 rw [<- HWA.out]
 refine yT 0 (some 10) ?_ hS0 ?_ ?_
 rotate_left
 ·(intro w' hSw;go_simp;try with_reducible rfl)
 simp only [Act.put,yB,yC,yD]
 refine yT 1 (some 11) ?_ hS0 ?_ ?_
 rotate_left
 ·(intro w' hSw;go_simp;try with_reducible rfl)
 simp only [Act.put,yB,yC,yD]
 refine yT 2 (some 12) (.int .u8 (q:Int)) hS0 ?_ ?_
 ·(intro w' hSw;go_simp;exact EQ.out)
 simp only [Act.put,yB,yC,yD]
 refine yT 3 (some 13) (.int .u8 (d1:Int)) hS0 ?_ ?_
 ·(intro w' hSw;have rr:=RQ.out w';go_simp;try with_reducible rfl)
 simp only [Act.put,yB,yC,yD]
 refine yT 4 (some 14) ?_ hS0 ?_ ?_
 rotate_left
 ·(intro w' hSw;go_simp;try with_reducible rfl)
 simp only [Act.put,yB,yC,yD]
 refine yT 5 (some 15) (.int .u8 (r:Int)) hS0 ?_ ?_
 ·(intro w' hSw;go_simp;exact ER.out)
 simp only [Act.put,yB,yC,yD]
 refine yT 6 (some 16) (.int .u8 (d2:Int)) hS0 ?_ ?_
 ·(intro w' hSw;have rr:=RR.out w';go_simp;try with_reducible rfl)
 simp only [Act.put,yB,yC,yD]
 refine wpAnyT_one 7 rfl (by kernel_rfl) rfl ?_
 intro K hK
 obtain ⟨g,hg⟩:∃ g,g=wA.heap.size:=⟨_,rfl⟩
 obtain ⟨wB,hwB⟩:∃ y,y=wA.alloc (.cells #[.int .u8 (d1:Int),.int .u8 (d2:Int)] 5):=⟨_,rfl⟩
 have HGB:=zh (show wB.heap[g]? = some (.cells #[.int .u8 (d1:Int),.int .u8 (d2:Int)] 5 (0,0)) by rw [hwB,hg];exact heap_alloc_new _ _)
 have HMB:=zh (show Mod No wA wB by rw [hwB];exact (Mod.refl No wA).alloc _)
 have HOB:=zh (own_keepM HOA.out HMB.out (fun _ _ f=>f))
 have HBB:=zh (show base<=wB.heap.size from Nat.le_trans HBA.out HMB.out.size)
 have HWB:=zh hwB
 have HG:=zh hg
 clear hg hwB
 go_simp
 rw [<- HG.out,<- HWB.out]
 show K _ _
 have hS1:=trivial
 refine hK.out _ _ (fun _=>hS1) ?_
 clear hK K
 refine wpAnyT_one 8 rfl (by kernel_rfl) rfl ?_
 intro K hK
 refine wp_app_sl _ (.tmp 10) (.tmp 17) 29 (by rfl) base 5 i0 (.int .u8 0) 1 1 underlying29 hi0 hz0 hz1 hz2 rfl (by decide) v n _ (by rfl) HOB.out No 5 (.slice (some ⟨g,0,none⟩) 2 2) 2 [.int .u8 (d1:Int),.int .u8 (d2:Int)] (by rfl) (.inr ⟨g,0,2,_,_,rfl,Nat.le_refl _,by unfold maxLen;omega,fun f=>f,HGB.out,by simp,fun i hi=>by match i,hi with | 0,_=>rfl | 1,_=>rfl | k+2,h=>exact absurd h (by simp)⟩) rfl (by simp [Value.oneCell']) (by unfold maxLen;omega) (by omega) HBB.out ?_
 intro v5 w5 hown hg5 _
 show K (Act.put _ (some 18) v5) w5
 have HO5:=zh hown
 have HM5:=zh (show Mod (fun p=>base<=p) wA w5 from (HMB.out.weaken fun _ _ f=>f.elim:Mod (fun p=>base<=p) wA wB).trans (Mod.of_grown hg5 (fun k e _=>(HOB.out.lt _ e).1)))
 have HB5:=zh (show base<=w5.heap.size from Nat.le_trans HBB.out hg5.size)
 clear hown hg5
 show K _ _
 have hS2:=trivial
 refine hK.out _ _ (fun _=>hS2) ?_
 clear hK K
 refine yT 9 (some 3) ?_ hS2 ?_ ?_
 rotate_left
 ·(intro w' hSw;go_simp;try with_reducible rfl)
 simp only [Act.put]
 refine wpAnyT_done (by kernel_rfl) ?_ _
 go_wp2_with fail
 exact Met.intro (HJ.out _ _ ⟨⟨_,⟨rfl,rfl,rfl,rfl,rfl,trivial⟩,by rw [HTT.out];exact HO5.out⟩,HB5.out,(HMA.out.weaken fun _ _ f=>f.elim:Mod (fun p=>base<=p) w wA).trans HM5.out⟩)
def LpH (w0:World) (S:List UInt8) (base:Nat) (k:Nat) (a:Act) (w:World):Prop :=
 ∃ i n v,i+k=32/\n=2*i/\base<=w.heap.size/\w.ownsRow base 5 1 v n (bv (hexL (S.take i)))/\Mod (fun p=>base<=p) w0 w/\Fr 22 [(3,v),(6,keyV S),(7,.int .i64 (i:Int))] a
set_option maxRecDepth 100000 in
set_option maxHeartbeats 4000000 in
theorem hexloop_any (S:List UInt8) (hS:S.length=32) (base:Nat) (v:Value) (f:Act) (w:World) (hb:base<=w.heap.size) (hown:w.ownsRow base 5 1 v 0 [])
  (hF:Fr 22 [(3,v),(6,keyV S),(7,.int .i64 0)] f) :
  Code.wp prog blkH0 (Exit.then (fun a' w'=>(∃ v',Fr 22 [(3,v')] a'/\w'.ownsRow base 5 1 v' (hexL S).length (bv (hexL S)))/\Mod (fun p=>base<=p) w w') Nope) f w:=by
 refine wp_part fun J K' hJ hK=>?_
 have H0:=zh (show LpH w S base 32 f w from ⟨0,0,v,rfl,rfl,hb,hown,Mod.refl _ w,hF⟩)
 have HJ:=zh hJ
 obtain ⟨w0,hw0⟩:∃ w0,w0=w:=⟨_,rfl⟩
 rw [<- hw0] at HJ H0
 clear hF hJ hb hown
 conv=>arg 2;whnf
 go_step
 refine wp_loop_ghost_k (LpH w0 S base) 32 (by rw [hw0] at H0 ⊢;exact H0.out) ?_
 clear H0 hw0 f w v
 intro k f w hI J2 K2 hJ2 hK2
 have HJ2:=zh hJ2
 obtain ⟨i,n,v,hik,hn,hb,hown,hmod,hF⟩:=hI
 have HO:=zh hown
 have HM:=zh hmod
 have HB:=zh hb
 have HN:=zh hn
 clear hJ2 hown hmod hb hn
 obtain ⟨ts,ds⟩:=f
 obtain ⟨hsz,hds,hs3,hs6,hs7,-⟩:=hF
 dsimp only at hsz hds hs3 hs6 hs7
 subst hds
 obtain ⟨c,rfl,hc⟩:=lit22 ts hsz
 rw [hc] at hs3
 rw [hc] at hs6
 rw [hc] at hs7
 simp only [hs3,hs6,hs7]
 clear hc hsz hs3 hs6 hs7
 have hi0:(0:Int)<=(i:Int):=Int.natCast_nonneg _
 by_cases hi:i < 32
 ·have hi64:(i:Int) < 32:=by omega
  go_upto_block 1 with fail
  rename_i K5 hK5
  refine wp_only (hexstep_any S hS base i n v _ w hi HN.out HB.out HO.out ⟨rfl,rfl,rfl,rfl,rfl,trivial⟩) ?_
  rintro a2 w2 ⟨⟨v2,hF,hown2⟩,hb2,hm2⟩
  have HM2:=zh (HM.out.trans hm2)
  have HO2:=zh hown2
  have HB2:=zh hb2
  clear hown2 hb2 hm2 HO HB
  refine hK5 _ _ ?_
  obtain ⟨ts,ds⟩:=a2
  obtain ⟨hsz,hds,hs3,hs6,hs7,-⟩:=hF
  dsimp only at hsz hds hs3 hs6 hs7
  subst hds
  obtain ⟨c,rfl,hc⟩:=lit22 ts hsz
  rw [hc] at hs3
  rw [hc] at hs6
  rw [hc] at hs7
  simp only [hs3,hs6,hs7]
  clear hc hsz hs3 hs6 hs7
  clear hK5 K5
  go_wp2_with fail
  exact Handed.intro (k - 1) (by omega) (HJ2.out _ _ _ ⟨i+1,n+2,v2,by omega,by have:=HN.out;omega,HB2.out,HO2.out,HM2.out,rfl,rfl,rfl,rfl,by go_num,trivial⟩)
 ·have hi64:i=32:=by omega
  subst hi64
  have HF:=zh (show w.ownsRow base 5 1 v (hexL S).length (bv (hexL S)) by
   have h1:=HO.out
   rw [List.take_of_length_le (by omega)] at h1
   rw [hexL_length,hS]
   rw [HN.out] at h1
   exact h1)
  go_wp2_with fail
  exact Met.intro (HJ.out _ _ ⟨⟨_,⟨rfl,rfl,rfl,trivial⟩,HF.out⟩,HM.out⟩)
set_option maxRecDepth 100000 in
set_option maxHeartbeats 4000000 in
theorem hex_any (S:List UInt8) (hS:S.length=32) (w:World) :
  Calls prog 72 #[keyV S] w fun e w'=>e=.returned (.string ⟨(hexL S).toArray⟩)/\Mod No w w':=by
 refine calls_hide fun R hR=>?_
 go_enter func72,ntmps72
 go_upto_region 1 with fail
 obtain ⟨g,hg⟩:∃ g,g=w.heap.size:=⟨_,rfl⟩
 obtain ⟨w1,hw1⟩:∃ y,y=w.alloc (.cells (bv S).toArray 43):=⟨_,rfl⟩
 rw [<- hg,<- hw1]
 have HM1:=zh (show Mod No w w1 by rw [hw1];exact (Mod.refl No w).alloc _)
 have hk:w1.heap[g]? = some (.cells (bv S).toArray 43 (0,0)):=by rw [hw1,hg];exact heap_alloc_new w _
 clear hw1 hg
 go_upto_region 2 with fail
 rename_i K2 hK2
 refine wp_region_lit ?_
 refine wpList_load_row rfl 43 _ rfl g rfl 43 (bv S).toArray (0,0) _ hk underlying43 rfl (key_size hS) ?_
 go_upto_block 0 with fail
 rename_i K5 hK5
 refine wp_only (hexloop_any S hS w1.heap.size (.slice none 0 0) _ w1 (Nat.le_refl _) (World.ownsRow_nil _ _ _ _) ⟨rfl,rfl,rfl,rfl,rfl,trivial⟩) ?_
 rintro a2 w2 ⟨⟨v2,hF,hown2⟩,hm2⟩
 have HM2:=zh (HM1.out.then hm2 (S:=No) (fun i hi e=>by have e:w1.heap.size<=i:=e;have:=HM1.out.size;omega))
 have hcv:=string_of (P:=prog) (Sl.of_own hown2 (X:=No) (fun _ _ f=>f)) underlying29 underlying5 underlying9
 refine hK5 _ _ ?_
 clear hm2 hown2 hK5 K5
 obtain ⟨ts,ds⟩:=a2
 obtain ⟨hsz,hds,hs3,-⟩:=hF
 dsimp only at hsz hds hs3
 subst hds
 obtain ⟨c,rfl,hc⟩:=lit22 ts hsz
 rw [hc] at hs3
 simp only [hs3]
 clear hc hsz hs3
 go_wp2_with fail
 exact fin hR ⟨rfl,HM2.out⟩
theorem hexD_digit:∀ n:Fin 16,hexD (digit n.1)=some n.1:=by decide +kernel
theorem digit_hexD_all:∀ n:Fin 256,(hexD (UInt8.ofNat n.1)).all (fun x=>decide (x < 16) && decide (digit x=UInt8.ofNat n.1))=true:=by decide +kernel
theorem digit_hexD {c:UInt8} {x:Nat} (h:hexD c=some x):x < 16/\digit x=c:=by
 have hc:=UInt8.toNat_lt c
 have e:UInt8.ofNat c.toNat=c:=by simp
 have:=digit_hexD_all ⟨c.toNat,by omega⟩
 dsimp only at this
 rw [e,h] at this
 simpa using this
theorem byte_pair (c:UInt8):UInt8.ofNat (16*(c.toNat / 16)+c.toNat % 16)=c:=by
 rw [Nat.div_add_mod];simp
theorem unhex_hex:∀ S:List UInt8,unhexL (hexL S)=some S
 | []=>rfl
 | c :: S=>by
  have hc:=UInt8.toNat_lt c
  have e1:hexL (c :: S)=digit (c.toNat / 16) :: digit (c.toNat % 16) :: hexL S:=rfl
  have h1:=hexD_digit ⟨c.toNat / 16,by omega⟩
  have h2:=hexD_digit ⟨c.toNat % 16,by omega⟩
  dsimp only at h1 h2
  rw [e1,unhexL,h1,h2,unhex_hex S]
  show some (UInt8.ofNat (16*(c.toNat / 16)+c.toNat % 16) :: S)=_
  rw [byte_pair]
theorem hex_unhex:∀ {l S:List UInt8},unhexL l=some S->hexL S=l
 | [],S,h=>by cases h;rfl
 | [_],S,h=>by cases h
 | a :: b :: l,S,h=>by
  rw [unhexL] at h
  cases ha:hexD a with
  | none=>rw [ha] at h;simp at h
  | some x =>
   cases hb:hexD b with
   | none=>rw [ha,hb] at h;simp at h
   | some y =>
    cases hr:unhexL l with
    | none=>rw [ha,hb,hr] at h;simp at h
    | some r =>
     rw [ha,hb,hr] at h
     simp only [Option.some.injEq] at h
     subst h
     obtain ⟨hx,ex⟩:=digit_hexD ha
     obtain ⟨hy,ey⟩:=digit_hexD hb
     have e1:hexL (UInt8.ofNat (16*x+y) :: r)=digit ((UInt8.ofNat (16*x+y)).toNat / 16) :: digit ((UInt8.ofNat (16*x+y)).toNat % 16) :: hexL r:=rfl
     have e2:(UInt8.ofNat (16*x+y)).toNat=16*x+y:=by
      rw [UInt8.toNat_ofNat'];exact Nat.mod_eq_of_lt (by omega)
     rw [e1,e2,hex_unhex hr,show (16*x+y) / 16=x by omega,show (16*x+y) % 16=y by omega,ex,ey]
theorem unhex_some:∀ {l:List UInt8},l.length % 2=0->(∀ i (hi:i < l.length),hexD l[i] ≠ none)->∃ S,unhexL l=some S
 | [],_,_=>⟨[],rfl⟩
 | [_],h,_=>by simp at h
 | a :: b :: l,h,h2=>by
  obtain ⟨S,hS⟩:=unhex_some (l:=l) (by simp only [List.length_cons] at h;omega) (fun i hi=>h2 (i+2) (by simpa using hi))
  have ha:=h2 0 (by simp)
  have hb:=h2 1 (by simp)
  simp only [List.getElem_cons_zero,List.getElem_cons_succ] at ha hb
  rw [unhexL,hS]
  cases hx:hexD a with
  | none=>exact absurd hx ha
  | some x =>
   cases hy:hexD b with
   | none=>exact absurd hy hb
   | some y=>exact ⟨_,rfl⟩
theorem sum_of {l S:List UInt8} (h:sumL l=some S):S.length=32/\l=hexL S:=by
 unfold sumL at h
 split at h
 ·rename_i hl
  have h2:=hex_unhex h
  refine ⟨?_,h2.symm⟩
  have:=hexL_length S
  rw [h2,hl] at this
  omega
 ·cases h
theorem sum_hex {S:List UInt8} (h:S.length=32):sumL (hexL S)=some S:=by
 unfold sumL
 rw [if_pos (by rw [hexL_length,h]),unhex_hex]
def decT (n:Nat):List UInt8:=if n < 10 then [UInt8.ofNat (48+n)] else decT (n / 10)++[UInt8.ofNat (48+n % 10)]
decreasing_by omega
theorem decT_small {n:Nat} (h:n < 10):decT n=[UInt8.ofNat (48+n)]:=by rw [decT,if_pos h]
theorem decT_great {n:Nat} (h:¬ n < 10):decT n=decT (n / 10)++[UInt8.ofNat (48+n % 10)]:=by rw [decT,if_neg h]
theorem dig_of {n:Nat} (h:n < 10):(UInt8.ofNat (48+n)).toNat=48+n/\dig (UInt8.ofNat (48+n))=true:=by
 have e:(UInt8.ofNat (48+n)).toNat=48+n:=by rw [UInt8.toNat_ofNat'];exact Nat.mod_eq_of_lt (by omega)
 refine ⟨e,?_⟩
 unfold dig
 rw [e]
 simp
 omega
theorem decT_all (n:Nat):(decT n).all dig=true/\decT n ≠ []/\decV (decT n)=n/\∀ k,n < 10 ^ (k+1)->(decT n).length<=k+1:=by
 induction n using Nat.strongRecOn with
 | ind n ih =>
  by_cases h:n < 10
  ·obtain ⟨h1,h2⟩:=dig_of h
   rw [decT_small h]
   generalize UInt8.ofNat (48+n)=c at *
   refine ⟨by simp [h2],by simp,by simp [decV,h1],fun k _=>by simp⟩
  ·obtain ⟨h1,h2⟩:=dig_of (n:=n % 10) (by omega)
   obtain ⟨a,b,c,d⟩:=ih (n / 10) (by omega)
   rw [decT_great h]
   generalize UInt8.ofNat (48+n % 10)=x at *
   refine ⟨by rw [List.all_append,a];simp [h2],by simp,?_,fun k hk=>?_⟩
   ·rw [decV_snoc,c,h1];omega
   ·match k,hk with
    | 0,hk=>exact absurd hk (by omega)
    | k+1,hk =>
     have:=d k (by rw [Nat.pow_succ] at hk;omega)
     rw [List.length_append]
     simp
     omega
theorem decT_size {n:Nat} (h:n<=262144):sizeL (decT n)=some (n:Int):=by
 obtain ⟨a,b,c,d⟩:=decT_all n
 have hd:digitsB (decT n)=true:=by
  unfold digitsB
  rw [a]
  simp [b]
 unfold sizeL
 have:=d 5 (by omega)
 rw [if_pos ⟨hd,by omega,by omega⟩,c]
def joinC (c:UInt8):List (List UInt8)->List UInt8
 | []=>[]
 | [x]=>x
 | x :: l=>x++c :: joinC c l
def verT (v:Ver):List UInt8:=decT v.ma.toNat++46 :: (decT v.mi.toNat++46 :: (decT v.pa.toNat++(if v.pre=[] then [] else 45 :: joinC 46 v.pre)))
def needT' (n:Nd):List UInt8:=needT++32 :: (n.name++32 :: (n.text++[10]))
def packT' (r:Rw):List UInt8:=packT++32 :: (r.name++32 :: (verT r.v++32 :: (hexL r.sum++32 :: (decT r.size.toNat++[10]))))
def rowT (r:Rw):List UInt8:=packT' r++(sortR ltNd r.needs).flatMap needT'
def indexT (l:List Rw):List UInt8:=l.flatMap rowT
theorem lines_split:∀ (ls:List (List UInt8)),(∀ x ∈ ls,∀ d ∈ x,d ≠ 10)->splitC 10 (ls.flatMap (fun x=>x++[10]))=ls++[[]]
 | [],_=>rfl
 | x :: ls,h=>by
  rw [List.flatMap_cons,List.append_assoc]
  show splitC 10 (x++10 :: ls.flatMap (fun x=>x++[10]))=_
  rw [splitC_hit _ (h x (by simp)),lines_split ls (fun y hy=>h y (by simp [hy]))]
  rfl
theorem lines_of (ls:List (List UInt8)) (h:∀ x ∈ ls,∀ d ∈ x,d ≠ 10):linesL (ls.flatMap (fun x=>x++[10]))=ls:=by
 unfold linesL
 rw [lines_split ls h,if_pos (by simp),List.dropLast_concat]
def wordB (c:UInt8):Bool:=decide (33<=c.toNat)
theorem word_ne {l:List UInt8} (h:l.all wordB=true) {d:UInt8} (hd:d ∈ l):d ≠ 32/\d ≠ 10:=by
 have:=List.all_eq_true.1 h d hd
 unfold wordB at this
 have h2:33<=d.toNat:=by simpa using this
 constructor <;> (rintro rfl;exact absurd h2 (by decide))
theorem all_mono {p q:UInt8->Bool} {l:List UInt8} (h:l.all p=true) (hpq:∀ c,p c=true->q c=true):l.all q=true :=
 List.all_eq_true.2 fun x hx=>hpq x (List.all_eq_true.1 h x hx)
theorem dig_word (c:UInt8) (h:dig c=true):wordB c=true:=by
 have:=dig_bounds h
 unfold wordB
 simp
 omega
theorem nameC_word (c:UInt8) (h:nameC c=true):wordB c=true:=by
 unfold nameC smallB dig at h
 unfold wordB
 simp at h ⊢
 omega
theorem name_word {l:List UInt8} (h:nameB l=true):l.all wordB=true:=by
 unfold nameB at h
 simp only [Bool.and_eq_true] at h
 exact all_mono h.2 nameC_word
theorem digit_word:∀ n:Fin 16,wordB (digit n.1)=true:=by decide +kernel
theorem hex_word:∀ S:List UInt8,(hexL S).all wordB=true
 | []=>rfl
 | c :: S=>by
  have hc:=UInt8.toNat_lt c
  have e1:hexL (c :: S)=digit (c.toNat / 16) :: digit (c.toNat % 16) :: hexL S:=rfl
  have h1:=digit_word ⟨c.toNat / 16,by omega⟩
  have h2:=digit_word ⟨c.toNat % 16,by omega⟩
  dsimp only at h1 h2
  rw [e1,List.all_cons,List.all_cons,h1,h2,hex_word S]
  rfl
structure GoodN (n:Nd):Prop where
 name:nameB n.name=true
 span:spanL n.text=some n.span
 text:∀ d ∈ n.text,d ≠ 10
structure GoodR (r:Rw):Prop where
 name:nameB r.name=true
 ver:verOf (verT r.v)=some r.v
 word:(verT r.v).all wordB=true
 sum:r.sum.length=32
 size:0<=r.size/\r.size<=262144
 needs:∀ n ∈ r.needs,GoodN n/\n.name ≠ r.name
 rises:Rises Nd.name r.needs
 most:r.needs.length<=20
def packW (r:Rw):List UInt8:=packT++32 :: (r.name++32 :: (verT r.v++32 :: (hexL r.sum++32 :: decT r.size.toNat)))
def needW (n:Nd):List UInt8:=needT++32 :: (n.name++32 :: n.text)
def rowLs (r:Rw):List (List UInt8):=packW r :: r.needs.map needW
theorem sortR_rises {l:List Nd} (h:Rises Nd.name l):sortR ltNd l=l:=by
 have:∀ k,k<=l.length->sortR ltNd (l.take k)=l.take k:=by
  intro k
  induction k with
  | zero=>intro _;rw [List.take_zero];rfl
  | succ k ih =>
   intro hk
   rw [sortR_take ltNd l (by omega),ih (by omega),List.take_succ_eq_append_getElem (by omega)]
   have:=insR_scan (p:=ltNd l[k]) (x:=l[k]) (A:=l.take k) (B:=[]) (fun _ h=>by cases h) (by
    rcases List.eq_nil_or_concat (l.take k) with h2 | ⟨C,z,h2⟩
    ·exact .inl h2
    ·refine .inr ⟨C,z,by simpa using h2,decide_eq_false fun h3=>?_⟩
     have hz:z ∈ l.take k:=by rw [h2];simp
     obtain ⟨i,hi,rfl⟩:=List.getElem_of_mem hz
     rw [List.length_take] at hi
     rw [List.getElem_take] at h3
     exact absurd (text_trans h3 (h.get (i:=i) (j:=k) (by omega) (by omega))) (by simp))
   rw [List.append_nil] at this
   exact this
 have h2:=this l.length (Nat.le_refl _)
 rw [List.take_length] at h2
 exact h2
theorem rowT_lines (r:Rw) (h:Rises Nd.name r.needs):rowT r=(rowLs r).flatMap (fun x=>x++[10]):=by
 unfold rowT rowLs
 rw [sortR_rises h,List.flatMap_cons,List.flatMap_map]
 congr 1
 ·unfold packT' packW
  simp
 ·congr 1
  funext n
  unfold needT' needW
  simp
theorem indexT_lines:∀ (l:List Rw),(∀ r ∈ l,Rises Nd.name r.needs)->indexT l=(l.flatMap rowLs).flatMap (fun x=>x++[10])
 | [],_=>rfl
 | r :: l,h=>by
  have ih:=indexT_lines l (fun x hx=>h x (by simp [hx]))
  unfold indexT at *
  rw [List.flatMap_cons,ih,rowT_lines r (h r (by simp)),List.flatMap_cons,List.flatMap_append]
theorem packW_no {r:Rw} (h:GoodR r):∀ d ∈ packW r,d ≠ 10:=by
 have h1:=(decT_all r.size.toNat).1
 intro d hd
 unfold packW at hd
 simp only [List.mem_append,List.mem_cons] at hd
 rcases hd with hd | rfl | hd | rfl | hd | rfl | hd | rfl | hd
 ·exact (show ∀ d ∈ packT,d ≠ 10 by decide) d hd
 ·decide
 ·exact (word_ne (name_word h.name) hd).2
 ·decide
 ·exact (word_ne h.word hd).2
 ·decide
 ·exact (word_ne (hex_word _) hd).2
 ·decide
 ·exact (word_ne (all_mono h1 dig_word) hd).2
theorem needW_no {n:Nd} (h:GoodN n):∀ d ∈ needW n,d ≠ 10:=by
 intro d hd
 unfold needW at hd
 simp only [List.mem_append,List.mem_cons] at hd
 rcases hd with hd | rfl | hd | rfl | hd
 ·exact (show ∀ d ∈ needT,d ≠ 10 by decide) d hd
 ·decide
 ·exact (word_ne (name_word h.name) hd).2
 ·decide
 ·exact h.text d hd
theorem rowLs_no {r:Rw} (h:GoodR r):∀ x ∈ rowLs r,∀ d ∈ x,d ≠ 10:=by
 intro x hx
 rcases List.mem_cons.1 hx with rfl | hx
 ·exact packW_no h
 ·obtain ⟨n,hn,rfl⟩:=List.mem_map.1 hx
  exact needW_no (h.needs n hn).1
theorem pack_line {st:List Rw} {r:Rw} (h:GoodR r) (hst:st.length < 200) (hat:atL st r.name r.v=none):lineL st (packW r)=some (st++[⟨r.name,r.v,r.sum,r.size,[]⟩]):=by
 have h1:=(decT_all r.size.toNat).1
 unfold lineL
 have e1:(packW r).take 5=packT++[32]:=by simp [packW,packT]
 have e2:(packW r).drop 5=r.name++32 :: (verT r.v++32 :: (hexL r.sum++32 :: decT r.size.toNat)):=by simp [packW,packT]
 rw [if_pos e1,e2]
 unfold packL
 rw [splitC_hit _ (fun d hd=>(word_ne (name_word h.name) hd).1),splitC_hit _ (fun d hd=>(word_ne h.word hd).1),splitC_hit _ (fun d hd=>(word_ne (hex_word _) hd).1),splitC_none (fun d hd=>(word_ne (all_mono h1 dig_word) hd).1)]
 have e3:rowL r.name (verT r.v) (hexL r.sum) (decT r.size.toNat)=some ⟨r.name,r.v,r.sum,r.size,[]⟩:=by
  unfold rowL
  have:=h.size
  rw [if_pos h.name,h.ver,sum_hex h.sum,decT_size (by omega)]
  simp
  omega
 simp only [e3,Option.bind_some]
 rw [if_neg]
 rw [hat]
 rintro (h2 | h2)
 ·cases h2
 ·omega
theorem need_line {st:List Rw} {r:Rw} {n:Nd} {ns:List Nd} (h:GoodN n) (hn:n.name ≠ r.name) (hl:ns.length < 20) (hr:Rises Nd.name (ns++[n])) :
  lineL (st++[⟨r.name,r.v,r.sum,r.size,ns⟩]) (needW n)=some (st++[⟨r.name,r.v,r.sum,r.size,ns++[n]⟩]):=by
 unfold lineL
 have e0:(needW n).take 5=needT++[32]:=by simp [needW,needT]
 have e1:¬ (needW n).take 5=packT++[32]:=by rw [e0];decide
 have e2:(needW n).drop 5=n.name++32 :: n.text:=by simp [needW,needT]
 rw [if_neg e1,if_pos e0,e2]
 have hns:∀ d ∈ n.name,d ≠ 32:=fun d hd=>(word_ne (name_word h.name) hd).1
 have e3:needL (n.name++32 :: n.text)=some n:=by
  unfold needL
  rw [headC_hit _ hns,tailC_hit _ hns,if_pos ⟨by simp,h.name⟩,h.span]
  rfl
 unfold Rises at hr
 rw [List.pairwise_append] at hr
 have e4:insR (ltNd n) n ns=ns++[n]:=by
  have:=insR_scan (p:=ltNd n) (x:=n) (A:=ns) (B:=[]) (fun _ h=>by cases h) (by
   rcases List.eq_nil_or_concat ns with h2 | ⟨C,z,h2⟩
   ·exact .inl h2
   ·refine .inr ⟨C,z,by simpa using h2,decide_eq_false fun h3=>?_⟩
    have:=hr.2.2 z (by rw [h2];simp) n (by simp)
    exact absurd (text_trans h3 this) (by simp))
  rw [List.append_nil] at this
  exact this
 unfold wantL
 rw [List.getLast?_concat]
 simp only [e3,Option.bind_some]
 rw [if_neg,List.dropLast_concat,e4]
 rintro (h2 | h2 | h2)
 ·exact hn h2
 ·obtain ⟨m,hm,h3⟩:=List.mem_map.1 h2
  have:=hr.2.2 m hm n (by simp)
  rw [h3] at this
  exact absurd this (by simp)
 ·omega
theorem needs_go {st:List Rw} {r:Rw} (rest:List (List UInt8)):∀ (ns ms:List Nd) (i:Nat),(∀ n ∈ ms,GoodN n/\n.name ≠ r.name)->Rises Nd.name (ns++ms)->(ns++ms).length<=20 →
  goL (st++[⟨r.name,r.v,r.sum,r.size,ns⟩]) i (ms.map needW++rest)=goL (st++[⟨r.name,r.v,r.sum,r.size,ns++ms⟩]) (i+ms.length) rest
 | ns,[],i,_,_,_=>by simp
 | ns,m :: ms,i,h,hr,hl=>by
  have e:ns++m :: ms=(ns++[m])++ms:=by simp
  rw [e] at hr hl ⊢
  have hr2:=hr
  unfold Rises at hr2
  rw [List.pairwise_append] at hr2
  show goL _ i (needW m :: (ms.map needW++rest))=_
  rw [goL,if_neg (by show ¬ (silentB (needW m)=true);rw [show silentB (needW m)=false from rfl];simp)]
  rw [need_line (h m (by simp)).1 (h m (by simp)).2 (by simp at hl;omega) hr2.1]
  show goL _ (i+1) _=_
  rw [needs_go rest (ns++[m]) ms (i+1) (fun n hn=>h n (by simp [hn])) hr hl]
  rw [show i+1+ms.length=i+(m :: ms).length by simp;omega]
theorem row_go {st:List Rw} {r:Rw} (h:GoodR r) (hst:st.length < 200) (hat:atL st r.name r.v=none) (i:Nat) (rest:List (List UInt8)) :
  goL st i (rowLs r++rest)=goL (st++[r]) (i+(rowLs r).length) rest:=by
 show goL st i (packW r :: (r.needs.map needW++rest))=_
 rw [goL,if_neg (by show ¬ (silentB (packW r)=true);rw [show silentB (packW r)=false from rfl];simp),pack_line h hst hat]
 show goL _ (i+1) _=_
 have:=needs_go (st:=st) (r:=r) rest [] r.needs (i+1) h.needs (by simpa using h.rises) (by simpa using h.most)
 rw [this]
 rw [show i+1+r.needs.length=i+(rowLs r).length by simp [rowLs];omega]
 rfl
def Fresh:List Rw->List Rw->Prop
 | _,[]=>True
 | st,r :: l=>atL st r.name r.v=none/\Fresh (st++[r]) l
theorem rows_go (rest:List (List UInt8)):∀ (l st:List Rw) (i:Nat),(∀ r ∈ l,GoodR r)->Fresh st l->(st++l).length<=200 →
  goL st i (l.flatMap rowLs++rest)=goL (st++l) (i+(l.flatMap rowLs).length) rest
 | [],st,i,_,_,_=>by simp
 | r :: l,st,i,h,hf,hl=>by
  rw [List.flatMap_cons,List.append_assoc,row_go (h r (by simp)) (by simp at hl;omega) hf.1,rows_go rest l (st++[r]) _ (fun x hx=>h x (by simp [hx])) hf.2 (by simpa using hl)]
  rw [List.append_assoc,List.length_append,Nat.add_assoc]
  rfl
theorem rowLs_all {l:List Rw} (h:∀ r ∈ l,GoodR r):∀ x ∈ l.flatMap rowLs,∀ d ∈ x,d ≠ 10:=by
 intro x hx
 obtain ⟨r,hr,hx⟩:=List.mem_flatMap.1 hx
 exact rowLs_no (h r hr) x hx
theorem index_told {l:List Rw} (h:∀ r ∈ l,GoodR r) (hf:Fresh [] l) (hl:l.length<=200) (hs:(indexT l).length<=65536):indexL (indexT l)=.inl l:=by
 unfold indexL
 rw [if_neg (by omega),indexT_lines l (fun r hr=>(h r hr).rises),lines_of _ (rowLs_all h)]
 have:=rows_go [] l [] 0 h hf (by simpa using hl)
 rw [List.append_nil] at this
 rw [this]
 rfl
end Go.Proofs.YtgiigemfbebcgaaGreatDoor
