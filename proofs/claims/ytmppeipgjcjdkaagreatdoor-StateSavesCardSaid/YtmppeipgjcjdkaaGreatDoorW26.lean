/-
  Layers 0 to 14: helps of the laws of indexes. No statement is proved here; no condition.
-/
import Derived.Test.YtmppeipgjcjdkaaGreatDoorW08
import Derived.Test.YtmppeipgjcjdkaaGreatDoorW12
import Derived.Test.YtmppeipgjcjdkaaGreatDoorW05
namespace Go.Proofs.YtmppeipgjcjdkaaGreatDoor
open _root_.Go.Proofs.Tryz
open Go.RowKit
noncomputable def blkM0:Code:=(blockAt 0 bodyM).getD .skip
def LpP (w0:World) (l:List UInt8) (q pb po pc:Nat) (h:List Int) (v2:Value):Nat->Act->World->Prop
 | 0,a,w=>∃ V4,Fr 128 [(2,v2),(3,.pointer (some ⟨q,0,none⟩)),(4,V4),(5,.int .u64 ((l.length:Int)*8)),(20,.slice (some ⟨pb,po,none⟩) 1 pc),(21,.int .i64 1),(22,.int .i64 1)] a/\Sl w (fun p=>p=q) 5 V4 (l.length % 64) (bv (l.drop (64*(l.length / 64)))) ∧
   w.heap[q]? = some (.cells (stA (runF k0 (l.length / 64) (bf l) h) k0) 205 (0,0))/\Mod (fun p=>p=q) w0 w
 | 1,a,w=>w=w0/\Fr 128 [(2,v2),(3,.pointer (some ⟨q,0,none⟩)),(4,.slice none 0 0),(5,.int .u64 0),(20,.slice (some ⟨pb,po,none⟩) 1 pc),(21,.int .i64 1),(22,.int .i64 0)] a
 | _,_,_=>False
set_option maxRecDepth 100000 in
set_option maxHeartbeats 4000000 in
theorem parts_any (l:List UInt8) (q pb po pc:Nat) (h:List Int) (v2 V:Value) (f:Act) (w:World) (hh:h.length=8) (hl:l.length<=140737488355328)
  (hq:w.heap[q]? = some (.cells (stA h k0) 205 (0,0))) (hp:w.cell? ⟨pb,po,none⟩=some V) (hV:SvX w (fun p=>p=q) V l.length (bv l))
  (hF:Fr 128 [(2,v2),(3,.pointer (some ⟨q,0,none⟩)),(4,.slice none 0 0),(5,.int .u64 0),(20,.slice (some ⟨pb,po,none⟩) 1 pc),(21,.int .i64 1),(22,.int .i64 0)] f) :
  Code.wp prog blkM0 (Exit.then (fun a' w'=>(∃ V4,Fr 128 [(2,v2),(3,.pointer (some ⟨q,0,none⟩)),(4,V4),(5,.int .u64 ((l.length:Int)*8))] a'/\Sl w' (fun p=>p=q) 5 V4 (l.length % 64) (bv (l.drop (64*(l.length / 64))))) ∧
   w'.heap[q]? = some (.cells (stA (runF k0 (l.length / 64) (bf l) h) k0) 205 (0,0))/\Mod (fun p=>p=q) w w') Nope) f w:=by
 refine wp_part fun J K' hJ hK=>?_
 obtain ⟨i0,hi,hz0,hz1,hz2⟩:=info_parts info_u8
 have HI:=zh (And.intro hi (And.intro hz0 (And.intro hz1 hz2)))
 clear hi hz0 hz1 hz2
 have H0:=zh (show LpP w l q pb po pc h v2 1 f w from ⟨rfl,hF⟩)
 have HJ:=zh hJ
 have HQ:=zh hq
 have HP:=zh hp
 have HV:=zh hV
 obtain ⟨va,vc,rfl⟩:=hV.len
 clear hF hJ hq hV hp
 obtain ⟨w0,hw0⟩:∃ w0,w0=w:=⟨_,rfl⟩
 rw [<- hw0] at HJ H0 HQ HP HV
 conv=>arg 2;whnf
 go_step
 refine wp_loop_ghost_k (LpP w0 l q pb po pc h v2) 1 (by rw [hw0] at H0 ⊢;exact H0.out) ?_
 clear H0 hw0 f w
 intro k f w hI J2 K2 hJ2 hK2
 have HJ2:=zh hJ2
 clear hJ2
 rcases k with _ | k
 ·obtain ⟨V4,hF,hS,hq,hm⟩:=hI
  have HE:=zh (And.intro hS (And.intro hq hm))
  clear hS hq hm
  obtain ⟨ts,ds⟩:=f
  obtain ⟨hsz,hds,hs2,hs3,hs4,hs5,hs20,hs21,hs22,-⟩:=hF
  dsimp only at hsz hds hs2 hs3 hs4 hs5 hs20 hs21 hs22
  subst hds
  obtain ⟨c,rfl,hc⟩:=lit128 ts hsz
  rw [hc] at hs2
  rw [hc] at hs3
  rw [hc] at hs4
  rw [hc] at hs5
  rw [hc] at hs20
  rw [hc] at hs21
  rw [hc] at hs22
  simp only [hs2,hs3,hs4,hs5,hs20,hs21,hs22]
  clear hc hsz hs2 hs3 hs4 hs5 hs20 hs21 hs22
  go_wp2_with fail
  exact Met.intro (HJ.out _ _ ⟨⟨V4,⟨rfl,rfl,rfl,rfl,rfl,rfl,trivial⟩,HE.out.1⟩,HE.out.2.1,HE.out.2.2⟩)
 rcases k with _ | k
 ·obtain ⟨rfl,hF⟩:=hI
  have hp:=HP.out
  have hl8:(l.length:Int)<=140737488355328:=by omega
  have hl0:(0:Int)<=(l.length:Int):=Int.natCast_nonneg _
  obtain ⟨ts,ds⟩:=f
  obtain ⟨hsz,hds,hs2,hs3,hs4,hs5,hs20,hs21,hs22,-⟩:=hF
  dsimp only at hsz hds hs2 hs3 hs4 hs5 hs20 hs21 hs22
  subst hds
  obtain ⟨c,rfl,hc⟩:=lit128 ts hsz
  rw [hc] at hs2
  rw [hc] at hs3
  rw [hc] at hs4
  rw [hc] at hs5
  rw [hc] at hs20
  rw [hc] at hs21
  rw [hc] at hs22
  simp only [hs2,hs3,hs4,hs5,hs20,hs21,hs22]
  clear hc hsz hs2 hs3 hs4 hs5 hs20 hs21 hs22
  go_upto_block 4 with fail
  refine wp_loop_once ?_
  go_upto_block 4 with fail
  rename_i K5 hK5
  refine wp_only (fulls_any (fun p=>p=q) l q h v2 (.slice none 0 0) (.int .u64 ((l.length:Int)*8)) (.slice (some ⟨pb,po,none⟩) 1 pc) (.int .i64 1) (.int .i64 0) (.slice va l.length vc) _ w rfl hh HQ.out HV.out ⟨rfl,rfl,rfl,rfl,rfl,rfl,rfl,rfl,rfl,rfl,trivial⟩) ?_
  rintro a2 w2 ⟨⟨V',hF,hS⟩,hq2,hm2⟩
  have HS:=zh hS
  have HE:=zh (And.intro hq2 hm2)
  obtain ⟨va2,vc2,rfl⟩:=hS.len
  refine hK5 _ _ ?_
  clear hS hq2 hm2 hK5 K5 c hp
  obtain ⟨ts,ds⟩:=a2
  obtain ⟨hsz,hds,hs2,hs3,hs4,hs5,hs7,hs20,hs21,hs22,-⟩:=hF
  dsimp only at hsz hds hs2 hs3 hs4 hs5 hs7 hs20 hs21 hs22
  subst hds
  obtain ⟨c,rfl,hc⟩:=lit128 ts hsz
  rw [hc] at hs2
  rw [hc] at hs3
  rw [hc] at hs4
  rw [hc] at hs5
  rw [hc] at hs7
  rw [hc] at hs20
  rw [hc] at hs21
  rw [hc] at hs22
  simp only [hs2,hs3,hs4,hs5,hs7,hs20,hs21,hs22]
  clear hc hsz hs2 hs3 hs4 hs5 hs7 hs20 hs21 hs22
  obtain ⟨r,hr⟩:∃ r,r=l.length % 64:=⟨_,rfl⟩
  obtain ⟨rest,hrest⟩:∃ rest,rest=l.drop (64*(l.length / 64)):=⟨_,rfl⟩
  have hrl:rest.length=r:=by rw [hrest,hr,List.length_drop];omega
  have HR:=zh (And.intro hr (And.intro hrest hrl))
  rw [<- hr,<- hrest] at HS
  rw [<- hr]
  have hr64:(r:Int) < 64:=by omega
  clear hr hrest
  by_cases h0:r=0
  ·subst h0
   have hnil:rest=[]:=List.length_eq_zero_iff.1 hrl
   subst hnil
   clear hrl
   go_wp2_with fail
   exact Handed.intro 0 (by omega) (HJ2.out 0 _ _ ⟨_,⟨rfl,rfl,rfl,rfl,rfl,rfl,rfl,rfl,rfl,trivial⟩,by rw [<- HR.out.1,<- HR.out.2.1];exact .inl ⟨rfl,rfl,rfl⟩,HE.out.1,HE.out.2⟩)
  ·have hr0:(0:Int) < (r:Int):=by omega
   clear hrl
   obtain ⟨hi,hz0,hz1,hz2⟩:=HI.out
   obtain ⟨e9,hs9⟩:=HS.out.get (by omega)
   go_wp2_with (at_builtin;refine app_sl _ rfl _ _ 41 rfl w2.heap.size 5 i0 (.int .u8 0) 1 1 underlying41 hi hz0 hz1 hz2 rfl (by decide) _ 0 [] rfl (World.ownsRow_nil _ _ _ _) (fun p=>p=q) e9 _ r (bv rest) rfl hs9 (by rw [bv_length,HR.out.2.2,Nat.mul_one]) (bv_one _) (by unfold maxLen;omega) (by omega) (Nat.le_refl _) ?_;intro v3 w3 hown hg hiff;have HO:=zh (And.intro hown hg);clear hown hg hiff)
   have hlt:=lt_of_heap HE.out.1
   have hm3:Mod No w2 w3:=Mod.of_grown HO.out.2 (fun k e _=>by cases e)
   exact Handed.intro 0 (by omega) (HJ2.out 0 _ _ ⟨_,⟨rfl,rfl,rfl,rfl,rfl,rfl,rfl,rfl,rfl,trivial⟩,by
    rw [<- HR.out.1,<- HR.out.2.1]
    have h1:=HO.out.1
    rw [Nat.zero_add,List.nil_append] at h1
    exact Sl.of_own h1 (fun k hk e=>by omega),hm3.keep HE.out.1 (fun f=>f),HE.out.2.trans (hm3.weaken fun _ _ f=>f.elim)⟩)
 ·exact hI.elim
noncomputable def blkM6:Code:=(blockAt 6 bodyM).getD .skip
def LpL (w0:World) (L:List UInt8) (g e n:Nat) (v2 v3:Value) (k:Nat) (a:Act) (w:World):Prop :=
 ∃ i,i+k=8/\Mod (fun p=>p=g) w0 w/\w.heap[g]? = some (.cells (bv (lenAt L e n i)).toArray 207 (0,0))/\Fr 128 [(2,v2),(3,v3),(5,.int .u64 (n:Int)),(9,.pointer (some ⟨g,0,none⟩)),(11,.int .i64 (e:Int)),(80,.int .i64 (i:Int))] a
set_option maxRecDepth 100000 in
set_option maxHeartbeats 4000000 in
theorem lens_any (L:List UInt8) (g e n:Nat) (v2 v3:Value) (f:Act) (w:World) (hL:L.length=128) (he:e<=128) (h8:64<=e)
  (hg:w.heap[g]? = some (.cells (bv L).toArray 207 (0,0)))
  (hF:Fr 128 [(2,v2),(3,v3),(5,.int .u64 (n:Int)),(9,.pointer (some ⟨g,0,none⟩)),(11,.int .i64 (e:Int)),(80,.int .i64 0)] f) :
  Code.wp prog blkM6 (Exit.then (fun a' w'=>Fr 128 [(2,v2),(3,v3),(9,.pointer (some ⟨g,0,none⟩)),(11,.int .i64 (e:Int))] a'/\w'.heap[g]? = some (.cells (bv (lenAt L e n 8)).toArray 207 (0,0))/\Mod (fun p=>p=g) w w') Nope) f w:=by
 refine wp_part fun J K' hJ hK=>?_
 have H0:=zh (show LpL w L g e n v2 v3 8 f w from ⟨0,rfl,Mod.refl _ w,by rw [lenAt_zero];exact hg,hF⟩)
 have HJ:=zh hJ
 obtain ⟨w0,hw0⟩:∃ w0,w0=w:=⟨_,rfl⟩
 rw [<- hw0] at HJ H0
 clear hF hJ hg
 conv=>arg 2;whnf
 go_step
 refine wp_loop_ghost_k (LpL w0 L g e n v2 v3) 8 (by rw [hw0] at H0 ⊢;exact H0.out) ?_
 clear H0 hw0 f w
 intro k f w hI J2 K2 hJ2 hK2
 have HJ2:=zh hJ2
 obtain ⟨i,hik,hmod,hg,hF⟩:=hI
 have HG:=zh hg
 have HM:=zh hmod
 clear hJ2 hg hmod
 obtain ⟨ts,ds⟩:=f
 obtain ⟨hsz,hds,hs2,hs3,hs5,hs9,hs11,hs80,-⟩:=hF
 dsimp only at hsz hds hs2 hs3 hs5 hs9 hs11 hs80
 subst hds
 obtain ⟨c,rfl,hc⟩:=lit128 ts hsz
 rw [hc] at hs2
 rw [hc] at hs3
 rw [hc] at hs5
 rw [hc] at hs9
 rw [hc] at hs11
 rw [hc] at hs80
 simp only [hs2,hs3,hs5,hs9,hs11,hs80]
 clear hc hsz hs2 hs3 hs5 hs9 hs11 hs80
 have hi0:(0:Int)<=(i:Int):=Int.natCast_nonneg _
 by_cases hi:i < 8
 ·have hi8:(i:Int) < 8:=by omega
  obtain ⟨p,hp⟩:∃ p,p=e - 8+i:=⟨_,rfl⟩
  obtain ⟨e8,he8⟩:∃ e8,e8=e - 8:=⟨_,rfl⟩
  obtain ⟨j,hj⟩:∃ j,j=8*i:=⟨_,rfl⟩
  obtain ⟨s,hs⟩:∃ s,s=56 - 8*i:=⟨_,rfl⟩
  obtain ⟨x,hx⟩:=lenAt_get (n:=n) hL he (by omega) hi
  have hst:=lenAt_set (n:=n) hL he (by omega) hi
  rw [<- hp] at hx hst
  have c0:=cell_ofA HG.out hx
  have f0:=frozen_of p HG.out
  have q1:(e:Int) - 8=(e8:Int):=by omega
  have q2:(e8:Int)+(i:Int)=(p:Int):=by omega
  have q3:(8:Int)*(i:Int)=(j:Int):=by omega
  have q4:(56:Int) - (j:Int)=(s:Int):=by omega
  have b1:(p:Int) < 128:=by omega
  have b2:(0:Int)<=(p:Int):=Int.natCast_nonneg _
  have b3:(s:Int)<=56:=by omega
  have b4:(0:Int)<=(s:Int):=Int.natCast_nonneg _
  have b5:(0:Int)<=(e8:Int):=Int.natCast_nonneg _
  have b6:(e8:Int)<=120:=by omega
  have b7:(0:Int)<=(j:Int):=Int.natCast_nonneg _
  have b8:(j:Int)<=56:=by omega
  have HB:=zh (lenByte_val n i s hs)
  have HST:=zh hst
  clear hx hst hp hj hs he8
  go_wp2_with fail
  rw [HB.out]
  exact Handed.intro (k - 1) (by omega) (HJ2.out _ _ _ ⟨i+1,by omega,HM.out.setCell (fun _=>rfl) _,by rw [heap_setCell HG.out,HST.out],rfl,rfl,rfl,rfl,rfl,rfl,rfl,by go_num,trivial⟩)
 ·have hi8:i=8:=by omega
  subst hi8
  go_wp2_with fail
  exact Met.intro (HJ.out _ _ ⟨⟨rfl,rfl,rfl,rfl,rfl,rfl,trivial⟩,HG.out,HM.out⟩)
noncomputable def blkM8:Code:=(blockAt 8 bodyM).getD .skip
noncomputable def blkM10:Code:=(blockAt 10 bodyM).getD .skip
def LpB (w0:World) (L:List UInt8) (q g e m:Nat) (h:List Int) (v2:Value) (k:Nat) (a:Act) (w:World):Prop :=
 ∃ i at_,i+k=m/\at_=64*i/\Mod (fun p=>p=q) w0 w/\w.heap[q]? = some (.cells (stA (runF k0 i (bf L) h) k0) 205 (0,0))/\Fr 128 [(2,v2),(3,.pointer (some ⟨q,0,none⟩)),(9,.pointer (some ⟨g,0,none⟩)),(11,.int .i64 (e:Int)),(13,.int .i64 (at_:Int))] a
set_option maxRecDepth 100000 in
set_option maxHeartbeats 4000000 in
theorem lasts_any (L:List UInt8) (q g e m:Nat) (h:List Int) (v2:Value) (f:Act) (w:World) (hL:L.length=128) (he:e=64*m) (hm:m<=2) (hh:h.length=8) (hgq:g ≠ q)
  (hq:w.heap[q]? = some (.cells (stA h k0) 205 (0,0))) (hg:w.heap[g]? = some (.cells (bv L).toArray 207 (0,0)))
  (hF:Fr 128 [(2,v2),(3,.pointer (some ⟨q,0,none⟩)),(9,.pointer (some ⟨g,0,none⟩)),(11,.int .i64 (e:Int)),(13,.int .i64 0)] f) :
  Code.wp prog blkM8 (Exit.then (fun a' w'=>Fr 128 [(2,v2),(3,.pointer (some ⟨q,0,none⟩))] a'/\w'.heap[q]? = some (.cells (stA (runF k0 m (bf L) h) k0) 205 (0,0))/\Mod (fun p=>p=q) w w') Nope) f w:=by
 refine wp_part fun J K' hJ hK=>?_
 have H0:=zh (show LpB w L q g e m h v2 m f w from ⟨0,0,by omega,rfl,Mod.refl _ w,hq,hF⟩)
 have HJ:=zh hJ
 have HG:=zh hg
 obtain ⟨w0,hw0⟩:∃ w0,w0=w:=⟨_,rfl⟩
 rw [<- hw0] at HJ H0 HG
 clear hF hJ hq hg
 conv=>arg 2;whnf
 go_step
 refine wp_loop_ghost_k (LpB w0 L q g e m h v2) m (by rw [hw0] at H0 ⊢;exact H0.out) ?_
 clear H0 hw0 f w
 intro k f w hI J2 K2 hJ2 hK2
 have HJ2:=zh hJ2
 obtain ⟨i,at_,hik,hat,hmod,hq,hF⟩:=hI
 have HQ:=zh hq
 have HM:=zh hmod
 have HGW:=zh (hmod.keep HG.out hgq)
 have HAT:=zh (And.intro hat he)
 clear hJ2 hq hmod
 obtain ⟨ts,ds⟩:=f
 obtain ⟨hsz,hds,hs2,hs3,hs9,hs11,hs13,-⟩:=hF
 dsimp only at hsz hds hs2 hs3 hs9 hs11 hs13
 subst hds
 obtain ⟨c,rfl,hc⟩:=lit128 ts hsz
 rw [hc] at hs2
 rw [hc] at hs3
 rw [hc] at hs9
 rw [hc] at hs11
 rw [hc] at hs13
 simp only [hs2,hs3,hs9,hs11,hs13]
 clear hc hsz hs2 hs3 hs9 hs11 hs13
 have hi0:(0:Int)<=(at_:Int):=Int.natCast_nonneg _
 by_cases hi:i < m
 ·have b1:(at_:Int) < (e:Int):=by omega
  obtain ⟨at2,hat2⟩:∃ at2,at2=at_+64:=⟨_,rfl⟩
  have q1:(at_:Int)+64=(at2:Int):=by omega
  have b2:(at_:Int)<=(at2:Int):=by omega
  have b3:(at2:Int)<=128:=by omega
  have b4:(0:Int)<=(at2:Int):=Int.natCast_nonneg _
  have b5:(at_:Int)<=64:=by omega
  have HBY:=zh (fun k (hk:k < 64)=>show w.cell? ⟨g,at_+k,none⟩=some (.int .u8 (bf (L.drop (64*i)) k)) from by
   rw [bf_drop,<- HAT.out.1];exact cell_ofA HGW.out (by rw [List.getElem?_toArray];exact bv_bf (by omega)))
  have HT:=zh (fun n c (hn:64<=n)=>shaturn_any (bf (L.drop (64*i))) q g at_ n c (runF k0 i (bf L) h) k0 w (runF_length k0 i (bf L) h hh) rfl hn HQ.out HBY.out)
  have HA2:=zh hat2
  clear hat2 hat he
  go_wp2_with fail
  refine (HT.out _ _ (by have:=HA2.out;omega)).mono ?_
  rintro e' w2 ⟨⟨v,rfl⟩,hq2,hm2⟩
  have HM2:=zh (HM.out.trans hm2)
  have HQ3:=zh (show w2.heap[q]? = some (.cells (stA (runF k0 (i+1) (bf L) h) k0) 205 (0,0)) by
   rw [show runF k0 (i+1) (bf L) h=blockF k0 (bf (L.drop (64*i))) (runF k0 i (bf L) h) by
    rw [runF_last];exact blockF_congr (fun k _=>(bf_drop L (64*i) k).symm) _]
   exact hq2)
  clear hq2 hm2 HQ HM HT HBY HGW
  go_wp2_with fail
  exact Handed.intro (k - 1) (by omega) (HJ2.out _ _ _ ⟨i+1,at2,by omega,by have:=HAT.out;have:=HA2.out;omega,HM2.out,HQ3.out,rfl,rfl,rfl,rfl,rfl,rfl,by go_num,trivial⟩)
 ·have hi8:i=m:=by omega
  have b1:¬ ((at_:Int) < (e:Int)):=by subst hi8;omega
  subst hi8
  clear hat he
  go_wp2_with fail
  exact Met.intro (HJ.out _ _ ⟨⟨rfl,rfl,rfl,rfl,trivial⟩,HQ.out,HM.out⟩)
def LpK (w0:World) (q kb:Nat) (h:List Int) (v2:Value) (k:Nat) (a:Act) (w:World):Prop :=
 ∃ i,i+k=32/\Mod (fun p=>p=kb) w0 w/\w.heap[kb]? = some (.cells (bv (keyAt h i)).toArray 47 (0,0))/\Fr 128 [(2,v2),(3,.pointer (some ⟨q,0,none⟩)),(14,.pointer (some ⟨kb,0,none⟩)),(107,.int .i64 (i:Int))] a
set_option maxRecDepth 100000 in
set_option maxHeartbeats 4000000 in
theorem key_any (q kb:Nat) (h:List Int) (v2:Value) (f:Act) (w:World) (hh:h.length=8) (hkq:kb ≠ q)
  (hq:w.heap[q]? = some (.cells (stA h k0) 205 (0,0))) (hk:w.heap[kb]? = some (.cells (bv (keyAt h 0)).toArray 47 (0,0)))
  (hF:Fr 128 [(2,v2),(3,.pointer (some ⟨q,0,none⟩)),(14,.pointer (some ⟨kb,0,none⟩)),(107,.int .i64 0)] f) :
  Code.wp prog blkM10 (Exit.then (fun a' w'=>Fr 128 [(2,v2),(14,.pointer (some ⟨kb,0,none⟩))] a'/\w'.heap[kb]? = some (.cells (bv (keyF h)).toArray 47 (0,0))/\Mod (fun p=>p=kb) w w') Nope) f w:=by
 refine wp_part fun J K' hJ hK=>?_
 have H0:=zh (show LpK w q kb h v2 32 f w from ⟨0,rfl,Mod.refl _ w,hk,hF⟩)
 have HJ:=zh hJ
 have HQ:=zh hq
 obtain ⟨w0,hw0⟩:∃ w0,w0=w:=⟨_,rfl⟩
 rw [<- hw0] at HJ H0 HQ
 clear hF hJ hq hk
 conv=>arg 2;whnf
 go_step
 refine wp_loop_ghost_k (LpK w0 q kb h v2) 32 (by rw [hw0] at H0 ⊢;exact H0.out) ?_
 clear H0 hw0 f w
 intro k f w hI J2 K2 hJ2 hK2
 have HJ2:=zh hJ2
 obtain ⟨i,hik,hmod,hk,hF⟩:=hI
 have HK:=zh hk
 have HM:=zh hmod
 have HQW:=zh (hmod.keep HQ.out (fun e=>hkq e.symm))
 clear hJ2 hk hmod
 obtain ⟨ts,ds⟩:=f
 obtain ⟨hsz,hds,hs2,hs3,hs14,hs107,-⟩:=hF
 dsimp only at hsz hds hs2 hs3 hs14 hs107
 subst hds
 obtain ⟨c,rfl,hc⟩:=lit128 ts hsz
 rw [hc] at hs2
 rw [hc] at hs3
 rw [hc] at hs14
 rw [hc] at hs107
 simp only [hs2,hs3,hs14,hs107]
 clear hc hsz hs2 hs3 hs14 hs107
 have hi0:(0:Int)<=(i:Int):=Int.natCast_nonneg _
 by_cases hi:i < 32
 ·have hi32:(i:Int) < 32:=by omega
  obtain ⟨d,hd⟩:∃ d,d=i / 4:=⟨_,rfl⟩
  obtain ⟨r,hr⟩:∃ r,r=i % 4:=⟨_,rfl⟩
  obtain ⟨j,hj⟩:∃ j,j=8*r:=⟨_,rfl⟩
  obtain ⟨s,hs⟩:∃ s,s=24 - j:=⟨_,rfl⟩
  obtain ⟨x,hx⟩:∃ x,h.getD d 0=x:=⟨_,rfl⟩
  have hxa:(stA h k0)[d]? = some (.int .u32 x):=by
   unfold stA
   rw [List.getElem?_toArray,List.getElem?_map,List.getElem?_append_left (by omega),List.getElem?_eq_getElem (by omega),<- hx,List.getD_eq_getElem?_getD,List.getElem?_eq_getElem (by omega)];rfl
  have c0:=cell_ofA HK.out (keyAt_get h hi)
  have f0:=frozen_of i HK.out
  have c1:=cell_ofA HQW.out hxa
  have q1:(i:Int) / 4=(d:Int):=by omega
  have q2:(i:Int) % 4=(r:Int):=by omega
  have q1':Int.tdiv (i:Int) 4=(d:Int):=by rw [Int.tdiv_eq_ediv_of_nonneg hi0];exact q1
  have q2':Int.tmod (i:Int) 4=(r:Int):=by rw [Int.tmod_eq_emod_of_nonneg hi0];exact q2
  have q3:(8:Int)*(r:Int)=(j:Int):=by omega
  have q4:(24:Int) - (j:Int)=(s:Int):=by omega
  have b1:(d:Int) < 8:=by omega
  have b2:(0:Int)<=(d:Int):=Int.natCast_nonneg _
  have b3:(s:Int)<=24:=by omega
  have b4:(0:Int)<=(s:Int):=Int.natCast_nonneg _
  have b5:(0:Int)<=(r:Int):=Int.natCast_nonneg _
  have b6:(r:Int)<=3:=by omega
  have b7:(0:Int)<=(j:Int):=Int.natCast_nonneg _
  have b8:(j:Int)<=24:=by omega
  have HB:=zh (keyB_val h i s x (by rw [<- hd];exact hx) (by rw [<- hr];omega))
  have HST:=zh (keyAt_set h hi)
  clear hx hxa hd hr hj hs
  go_wp2_with fail
  rw [HB.out]
  exact Handed.intro (k - 1) (by omega) (HJ2.out _ _ _ ⟨i+1,by omega,HM.out.setCell (fun _=>rfl) _,by rw [heap_setCell HK.out,HST.out],rfl,rfl,rfl,rfl,rfl,by go_num,trivial⟩)
 ·have hi8:i=32:=by omega
  subst hi8
  have HKF:=zh (show w.heap[kb]? = some (.cells (bv (keyF h)).toArray 47 (0,0)) by rw [<- keyAt_full];exact HK.out)
  go_wp2_with fail
  exact Met.intro (HJ.out _ _ ⟨⟨rfl,rfl,rfl,rfl,trivial⟩,HKF.out,HM.out⟩)
theorem copy_rest (w:World) (X:Nat->Prop) (g:Nat) (va:Option Addr) (vc r:Nat) (rest:List UInt8) (hg:w.heap[g]? = some (.cells (bv (List.replicate 128 0)).toArray 207 (0,0)))
  (hs:Sl w X 5 (.slice va r vc) r (bv rest)) (hrl:rest.length=r) (hr:r < 64) :
  ∃ w',(∀ ty,(Builtin.copy_ #[41,41] ty #[.slice (some ⟨g,0,none⟩) 128 128,.slice va r vc]).run prog w=.ok (.int .i64 (r:Int)) w') ∧
   w'.heap[g]? = some (.cells (bv (rest++List.replicate (128 - r) 0)).toArray 207 (0,0))/\Mod (fun p=>p=g) w w':=by
 cases va with
 | none =>
  rcases hs with ⟨hv,hn,hx⟩ | ⟨_,_,_,_,_,hv,_⟩
  ·subst hn
   obtain rfl:rest=[]:=List.length_eq_zero_iff.1 hrl
   exact ⟨w,fun ty=>run_copy_none (P:=prog) w 41 41 ty 5 _ _ _ _ _ _ underlying41 (by kernel_rfl) rfl,hg,Mod.refl _ w⟩
  ·cases hv
 | some ad =>
  have hc:=fun (j:Nat) v (h:(bv rest)[j]? = some v)=>show w.cell? (ad.add j)=some v by
   have hj:j < (bv rest).length:=(List.getElem?_eq_some_iff.1 h).1
   rcases hs with ⟨hv,_⟩ | ⟨blk,o,c0,cur,fz,hv,hn,hc,hX,hh,hl,hr⟩
   ·cases hv
   ·cases hv
    rw [Addr.add_lit]
    exact cell_ofA hh (by rw [hr j hj];exact h)
  have e1:(((bv (List.replicate 128 0)).toArray.toList.take 0++bv rest++(bv (List.replicate 128 0)).toArray.toList.drop (0+(bv rest).length)).toArray:Array Value)=(bv (rest++List.replicate (128 - r) 0)).toArray:=by
   congr 1
   rw [bv_append,bv_length,hrl,<- List.drop_replicate,bv_drop,Nat.zero_add,List.take_zero,List.nil_append]
  have hrun:=fun ty=>run_copy_row (P:=prog) w 41 41 ty 5 g 0 128 128 ad r vc (bv (List.replicate 128 0)).toArray 207 (bv rest) underlying41 (by kernel_rfl) hg (by rw [bv_length,hrl];exact (Nat.min_eq_left (by omega)).symm) hc (by simp [hrl];omega) (bv_one _)
  rw [e1] at hrun
  refine ⟨w.setRow g (bv (rest++List.replicate (128 - r) 0)).toArray,fun ty=>(hrun ty).trans (by rw [bv_length,hrl];rfl),setRow_heap _ _ _ _ _ _ hg,⟨rfl,rfl,rfl,by simp [World.setRow],fun k hk hn=>setRow_other _ _ k _ hn⟩⟩
set_option maxRecDepth 100000 in
set_option maxHeartbeats 4000000 in
theorem sum_any (l:List UInt8) (pb po pc:Nat) (V:Value) (w:World) (hl:l.length<=140737488355328) (hp:w.cell? ⟨pb,po,none⟩=some V) (hV:SvX w No V l.length (bv l)) :
  Calls prog 52 #[.slice (some ⟨pb,po,none⟩) 1 pc] w fun e w'=>e=.returned (.agg (bv (sumF l)).toArray)/\Mod No w w':=by
 refine calls_hide fun R hR=>?_
 have HP:=zh hp
 have HV:=zh hV
 clear hp hV
 go_enter func52,ntmps52
 go_wp2_with fail
 refine (shabegin_any _).mono ?_
 rintro e w1 ⟨rfl,hm1⟩
 have HM1:=zh hm1
 clear hm1
 go_wp2_with fail
 refine (rounds0_any _).mono ?_
 rintro e w2 ⟨rfl,hm2⟩
 have HM2:=zh (HM1.out.trans hm2)
 clear hm2 HM1
 go_upto_block 0 with fail
 rename_i K5 hK5
 generalize hE:Array.foldl (fun (cs:Array Value) (x:Value × Nat)=>cs.setIfInBounds (8+x.snd) x.fst) _ _ _ _=S
 have hE2:S=stA h0 k0:=by rw [<- hE];kernel_rfl
 subst hE2
 clear hE
 have hz:∃ b2,b2=w.heap.size:=⟨_,rfl⟩
 obtain ⟨b2,hb2⟩:=hz
 obtain ⟨q,hqe⟩:∃ q,q=w2.heap.size:=⟨_,rfl⟩
 have hm02:Mod No w w2:=((Mod.refl No w).alloc _).trans HM2.out
 have hlt2:w.heap.size+1<=w2.heap.size:=by have h1:=HM2.out.size;simpa using h1
 have hB2:w2.heap[b2]? = some (.cells (bv (keyAt [] 0)).toArray 47 (0,0)):=by
  rw [hb2];exact HM2.out.keep (heap_alloc_new w _) (fun f=>f)
 rw [<- hb2,<- hqe]
 have hqn:w.heap.size<=q:=by omega
 obtain ⟨w3,hw3⟩:∃ w3,w3=w2.alloc (.cells (stA h0 k0) 205):=⟨_,rfl⟩
 have hq3:w3.heap[q]? = some (.cells (stA h0 k0) 205 (0,0)):=by rw [hw3,hqe];exact heap_alloc_new w2 _
 have hm23:Mod No w2 w3:=by rw [hw3];exact (Mod.refl No w2).alloc _
 have hB3:=hm23.keep hB2 (fun f=>f)
 have hm03:=hm02.trans hm23
 rw [<- hw3]
 have hS3:SvX w3 (fun p=>p=q) V l.length (bv l):=(HV.out.shrink (Y:=fun p=>p=q) (fun k hk e=>absurd hk (by omega))).kn hm03
 refine wp_only (parts_any l q pb po pc h0 (.pointer (some ⟨b2,0,none⟩)) V _ w3 rfl hl hq3 (hm03.cell HP.out (fun f=>f)) hS3 ⟨rfl,rfl,rfl,rfl,rfl,rfl,rfl,rfl,rfl,trivial⟩) ?_
 rintro a4 w4 ⟨⟨V4,hF,hS4⟩,hq4,hm34⟩
 have hbq:b2 ≠ q:=by omega
 have HB4:=zh (hm34.keep hB3 hbq)
 have HM4:=zh (hm03.then hm34 (S:=No) (fun i hi e=>absurd hi (by omega)))
 have HQ4:=zh hq4
 have HS4:=zh hS4
 have HBQ:=zh hbq
 obtain ⟨va,vc,rfl⟩:=hS4.len
 refine hK5 _ _ ?_
 clear hq4 hS4 hm34 hS3 hm03 hB3 hm23 hq3 hw3 hB2 hlt2 hm02 HM2 HP HV hK5 K5 hqe hbq
 obtain ⟨ts,ds⟩:=a4
 obtain ⟨hsz,hds,hs2,hs3,hs4,hs5,-⟩:=hF
 dsimp only at hsz hds hs2 hs3 hs4 hs5
 subst hds
 obtain ⟨c,rfl,hc⟩:=lit128 ts hsz
 rw [hc] at hs2
 rw [hc] at hs3
 rw [hc] at hs4
 rw [hc] at hs5
 simp only [hs2,hs3,hs4,hs5]
 clear hc hsz hs2 hs3 hs4 hs5
 obtain ⟨r,hr⟩:∃ r,r=l.length % 64:=⟨_,rfl⟩
 rw [<- hr] at HS4
 rw [<- hr]
 have HR:=zh hr
 have hr64:r < 64:=by omega
 have hrI:(r:Int) < 64:=by omega
 have hr0:(0:Int)<=(r:Int):=Int.natCast_nonneg _
 clear hr
 go_upto_region 21 with fail
 rename_i K5 hK5
 obtain ⟨g,hge⟩:∃ g,g=w4.heap.size:=⟨_,rfl⟩
 have hzc:Tryz.zeroCells207=(bv (List.replicate 128 0)).toArray:=by kernel_rfl
 rw [<- hge,hzc]
 obtain ⟨w5,hw5⟩:∃ w5,w5=w4.alloc (.cells (bv (List.replicate 128 0)).toArray 207):=⟨_,rfl⟩
 have hg5:w5.heap[g]? = some (.cells (bv (List.replicate 128 0)).toArray 207 (0,0)):=by rw [hw5,hge];exact heap_alloc_new w4 _
 have hm45:Mod No w4 w5:=by rw [hw5];exact (Mod.refl No w4).alloc _
 rw [<- hw5]
 obtain ⟨rest,hrest⟩:∃ rest,rest=l.drop (64*(l.length / 64)):=⟨_,rfl⟩
 rw [<- hrest] at HS4
 have hrl:rest.length=r:=by rw [hrest,HR.out,List.length_drop];omega
 obtain ⟨w6,hcp,hg6,hm56⟩:=copy_rest w5 _ g va vc r rest hg5 (HS4.out.kn hm45) hrl hr64
 have HCP:=zh hcp
 have hlq:=lt_of_heap HQ4.out
 have hlb:=lt_of_heap HB4.out
 have hgq:g ≠ q:=by omega
 have hgb:g ≠ b2:=by omega
 have HM6:=zh (show Mod No w w6 from HM4.out.then (hm45.then hm56 (S:=No) (fun i hi e=>absurd hi (by omega))) (fun i hi f=>f))
 have HQ6:=zh (hm56.keep (hm45.keep HQ4.out (fun f=>f)) (fun e=>hgq e.symm))
 have HB6:=zh (hm56.keep (hm45.keep HB4.out (fun f=>f)) (fun e=>hgb e.symm))
 have HG6:=zh hg6
 have HG:=zh (And.intro hgq hgb)
 have HRE:=zh (And.intro hrest hrl)
 have hrun:=HCP.out
 have f9:=frozen_of r HG6.out
 have c9:w6.cell? ⟨g,r,none⟩=some (.int .u8 0):=cell_ofA HG6.out (by
  rw [List.getElem?_toArray,bv_append,List.getElem?_append_right (by simp [hrl]),bv_length,hrl,Nat.sub_self,show 128 - r=(127 - r)+1 by omega,List.replicate_succ];rfl)
 have HGN:=zh (show w.heap.size<=g by have:=HM4.out.size;omega)
 have HQN:=zh hqn
 have HBN:=zh (show w.heap.size<=b2 by omega)
 clear hqn
 clear hcp hg6 hm56 hw5 hg5 hm45 HS4 HQ4 HB4 HM4 hrest hzc hlq hlb hge hb2
 go_upto_region 23 with fail
 rename_i K6 hK6
 have HG7:=zh (show (w6.setCell ⟨g,r,none⟩ (.int .u8 128)).heap[g]? = some (.cells (bv (bufF l)).toArray 207 (0,0)) by
  rw [heap_setCell HG6.out,buf_set hrl hr64];unfold bufF;rw [<- HRE.out.1,<- HR.out])
 have HM67:=zh (show Mod (fun p=>p=g) w6 (w6.setCell ⟨g,r,none⟩ (.int .u8 128)) from (Mod.refl (fun p=>p=g) w6).setCell (p:=⟨g,r,none⟩) (fun _=>rfl) _)
 generalize w6.setCell ⟨g,r,none⟩ (.int .u8 128)=w7 at *
 have HQ7:=zh (HM67.out.keep HQ6.out (fun e=>HG.out.1 e.symm))
 have HB7:=zh (HM67.out.keep HB6.out (fun e=>HG.out.2 e.symm))
 have HM7:=zh (HM6.out.then HM67.out (S:=No) (fun i hi e=>absurd hi (by have:=HGN.out;omega)))
 clear hrun f9 c9 HCP
 by_cases hc:64 < r+9
 ·have hcI:(64:Int) < (r:Int)+9:=by omega
  have HLN:=zh (show lastN l=2 by unfold lastN;rw [<- HR.out,if_pos hc])
  go_upto_block 6 with fail
  rename_i K6 hK6
  refine wp_only (lens_any (bufF l) g 128 (l.length*8) _ _ _ w7 (bufF_length l) (by decide) (by decide) HG7.out ⟨rfl,rfl,rfl,rfl,rfl,rfl,rfl,rfl,trivial⟩) ?_
  rintro a8 w8 ⟨hF,hg8,hm8⟩
  have HG8:=zh hg8
  have HQ8:=zh (hm8.keep HQ7.out (fun e=>HG.out.1 e.symm))
  have HB8:=zh (hm8.keep HB7.out (fun e=>HG.out.2 e.symm))
  have HM8:=zh (HM7.out.then hm8 (S:=No) (fun i hi e=>absurd hi (by have:=HGN.out;omega)))
  refine hK6 _ _ ?_
  clear hg8 hm8 hK6 K6 c
  obtain ⟨ts,ds⟩:=a8
  obtain ⟨hsz,hds,hs2,hs3,hs9,hs11,-⟩:=hF
  dsimp only at hsz hds hs2 hs3 hs9 hs11
  subst hds
  obtain ⟨c,rfl,hc⟩:=lit128 ts hsz
  rw [hc] at hs2
  rw [hc] at hs3
  rw [hc] at hs9
  rw [hc] at hs11
  simp only [hs2,hs3,hs9,hs11]
  clear hc hsz hs2 hs3 hs9 hs11
  go_upto_block 8 with fail
  rename_i K6 hK6
  refine wp_only (lasts_any (lenAt (bufF l) 128 (l.length*8) 8) q g 128 2 (runF k0 (l.length / 64) (bf l) h0) _ _ w8 (lenAt_length (bufF_length l) (by decide) (by decide)) rfl (by decide) (runF_length _ _ _ _ rfl) HG.out.1 HQ8.out HG8.out ⟨rfl,rfl,rfl,rfl,rfl,rfl,rfl,trivial⟩) ?_
  rintro a9 w9 ⟨hF,hq9,hm9⟩
  have HSUM:=zh (show sumF l=keyF (runF k0 2 (bf (lenAt (bufF l) 128 (l.length*8) 8)) (runF k0 (l.length / 64) (bf l) h0)) by unfold sumF lastF;rw [HLN.out])
  have HQ9:=zh hq9
  have HB9:=zh (hm9.keep HB8.out HBQ.out)
  have HM9:=zh (HM8.out.then hm9 (S:=No) (fun i hi e=>absurd hi (by have:=HQN.out;omega)))
  refine hK6 _ _ ?_
  clear hq9 hm9 hK6 K6 c
  obtain ⟨ts,ds⟩:=a9
  obtain ⟨hsz,hds,hs2,hs3,-⟩:=hF
  dsimp only at hsz hds hs2 hs3
  subst hds
  obtain ⟨c,rfl,hc⟩:=lit128 ts hsz
  rw [hc] at hs2
  rw [hc] at hs3
  simp only [hs2,hs3]
  clear hc hsz hs2 hs3
  go_upto_block 10 with fail
  rename_i K6 hK6
  obtain ⟨hf,hhf⟩:∃ hf,hf=runF k0 2 (bf (lenAt (bufF l) 128 (l.length*8) 8)) (runF k0 (l.length / 64) (bf l) h0):=⟨_,rfl⟩
  have hf8:hf.length=8:=by rw [hhf];exact runF_length _ _ _ _ (runF_length _ _ _ _ rfl)
  rw [<- hhf] at HSUM HQ9
  obtain ⟨kb,hkb⟩:∃ kb,kb=w9.heap.size:=⟨_,rfl⟩
  have hlq:=lt_of_heap HQ9.out
  have hlb:=lt_of_heap HB9.out
  have hkq:kb ≠ q:=by omega
  have hkb2:kb ≠ b2:=by omega
  rw [<- hkb]
  obtain ⟨w10,hw10⟩:∃ w10,w10=w9.alloc (.cells (bv (keyAt hf 0)).toArray 47):=⟨_,rfl⟩
  have hk10:w10.heap[kb]? = some (.cells (bv (keyAt hf 0)).toArray 47 (0,0)):=by rw [hw10,hkb];exact heap_alloc_new w9 _
  have hm10:Mod No w9 w10:=by rw [hw10];exact (Mod.refl No w9).alloc _
  refine wp_only (key_any q kb hf (.pointer (some ⟨b2,0,none⟩)) _ (w9.alloc (.cells (bv (keyAt hf 0)).toArray 47)) hf8 hkq (by rw [<- hw10];exact hm10.keep HQ9.out (fun f=>f)) (by rw [<- hw10];exact hk10) ⟨rfl,rfl,rfl,rfl,rfl,rfl,trivial⟩) ?_
  rw [<- hw10]
  rintro a11 w11 ⟨hF,hk11,hm11⟩
  have hb11:=hm11.keep (hm10.keep HB9.out (fun f=>f)) (fun e=>hkb2 e.symm)
  have hmm:=HM9.out.then (hm10.then hm11 (S:=No) (fun i hi e=>absurd hi (by omega))) (fun i hi f=>f)
  refine hK6 _ _ ?_
  clear hK6 K6 c
  obtain ⟨ts,ds⟩:=a11
  obtain ⟨hsz,hds,hs2,hs14,-⟩:=hF
  dsimp only at hsz hds hs2 hs14
  subst hds
  obtain ⟨c,rfl,hc⟩:=lit128 ts hsz
  rw [hc] at hs2
  rw [hc] at hs14
  simp only [hs2,hs14]
  clear hc hsz hs2 hs14
  go_upto_region 41 with fail
  rename_i K7 hK7
  have hsz:(prog.info? 47).map (·.size)=some (bv (keyF hf)).toArray.size:=by
   rw [show (bv (keyF hf)).toArray.size=32 by simp [keyF]]
   kernel_rfl
  refine wp_region_lit ?_
  refine wpList_load_row rfl 47 _ rfl kb rfl 47 (bv (keyF hf)).toArray (0,0) _ hk11 underlying47 (by kernel_rfl) hsz ?_
  refine wpList_store_row rfl 47 _ _ rfl b2 (bv (keyF hf)).toArray rfl rfl 47 _ hb11 hsz (by simp [keyAt,keyF]) (by simp [bv,Value.oneCell']) ?_
  refine hK7 _ _ ?_
  refine wp_ret ?_
  exact bodyPost_ret (results_cell_row rfl _ _ b2 47 (bv (keyF hf)).toArray (0,0) _ rfl (setRow_heap _ _ _ _ _ _ hb11) underlying47 (by kernel_rfl) hsz) rfl (fin hR ⟨by rw [HSUM.out],hmm.then (T:=fun p=>p=b2) ⟨rfl,rfl,rfl,by simp [World.setRow],fun k hk hn=>setRow_other _ _ k _ hn⟩ (fun i hi e=>absurd hi (by have:=HBN.out;omega))⟩)
 ·have hcI:¬ ((64:Int) < (r:Int)+9):=by omega
  have HLN:=zh (show lastN l=1 by unfold lastN;rw [<- HR.out,if_neg hc])
  go_upto_block 6 with fail
  rename_i K6 hK6
  refine wp_only (lens_any (bufF l) g 64 (l.length*8) _ _ _ w7 (bufF_length l) (by decide) (by decide) HG7.out ⟨rfl,rfl,rfl,rfl,rfl,rfl,rfl,rfl,trivial⟩) ?_
  rintro a8 w8 ⟨hF,hg8,hm8⟩
  have HG8:=zh hg8
  have HQ8:=zh (hm8.keep HQ7.out (fun e=>HG.out.1 e.symm))
  have HB8:=zh (hm8.keep HB7.out (fun e=>HG.out.2 e.symm))
  have HM8:=zh (HM7.out.then hm8 (S:=No) (fun i hi e=>absurd hi (by have:=HGN.out;omega)))
  refine hK6 _ _ ?_
  clear hg8 hm8 hK6 K6 c
  obtain ⟨ts,ds⟩:=a8
  obtain ⟨hsz,hds,hs2,hs3,hs9,hs11,-⟩:=hF
  dsimp only at hsz hds hs2 hs3 hs9 hs11
  subst hds
  obtain ⟨c,rfl,hc⟩:=lit128 ts hsz
  rw [hc] at hs2
  rw [hc] at hs3
  rw [hc] at hs9
  rw [hc] at hs11
  simp only [hs2,hs3,hs9,hs11]
  clear hc hsz hs2 hs3 hs9 hs11
  go_upto_block 8 with fail
  rename_i K6 hK6
  refine wp_only (lasts_any (lenAt (bufF l) 64 (l.length*8) 8) q g 64 1 (runF k0 (l.length / 64) (bf l) h0) _ _ w8 (lenAt_length (bufF_length l) (by decide) (by decide)) rfl (by decide) (runF_length _ _ _ _ rfl) HG.out.1 HQ8.out HG8.out ⟨rfl,rfl,rfl,rfl,rfl,rfl,rfl,trivial⟩) ?_
  rintro a9 w9 ⟨hF,hq9,hm9⟩
  have HSUM:=zh (show sumF l=keyF (runF k0 1 (bf (lenAt (bufF l) 64 (l.length*8) 8)) (runF k0 (l.length / 64) (bf l) h0)) by unfold sumF lastF;rw [HLN.out])
  have HQ9:=zh hq9
  have HB9:=zh (hm9.keep HB8.out HBQ.out)
  have HM9:=zh (HM8.out.then hm9 (S:=No) (fun i hi e=>absurd hi (by have:=HQN.out;omega)))
  refine hK6 _ _ ?_
  clear hq9 hm9 hK6 K6 c
  obtain ⟨ts,ds⟩:=a9
  obtain ⟨hsz,hds,hs2,hs3,-⟩:=hF
  dsimp only at hsz hds hs2 hs3
  subst hds
  obtain ⟨c,rfl,hc⟩:=lit128 ts hsz
  rw [hc] at hs2
  rw [hc] at hs3
  simp only [hs2,hs3]
  clear hc hsz hs2 hs3
  go_upto_block 10 with fail
  rename_i K6 hK6
  obtain ⟨hf,hhf⟩:∃ hf,hf=runF k0 1 (bf (lenAt (bufF l) 64 (l.length*8) 8)) (runF k0 (l.length / 64) (bf l) h0):=⟨_,rfl⟩
  have hf8:hf.length=8:=by rw [hhf];exact runF_length _ _ _ _ (runF_length _ _ _ _ rfl)
  rw [<- hhf] at HSUM HQ9
  obtain ⟨kb,hkb⟩:∃ kb,kb=w9.heap.size:=⟨_,rfl⟩
  have hlq:=lt_of_heap HQ9.out
  have hlb:=lt_of_heap HB9.out
  have hkq:kb ≠ q:=by omega
  have hkb2:kb ≠ b2:=by omega
  rw [<- hkb]
  obtain ⟨w10,hw10⟩:∃ w10,w10=w9.alloc (.cells (bv (keyAt hf 0)).toArray 47):=⟨_,rfl⟩
  have hk10:w10.heap[kb]? = some (.cells (bv (keyAt hf 0)).toArray 47 (0,0)):=by rw [hw10,hkb];exact heap_alloc_new w9 _
  have hm10:Mod No w9 w10:=by rw [hw10];exact (Mod.refl No w9).alloc _
  refine wp_only (key_any q kb hf (.pointer (some ⟨b2,0,none⟩)) _ (w9.alloc (.cells (bv (keyAt hf 0)).toArray 47)) hf8 hkq (by rw [<- hw10];exact hm10.keep HQ9.out (fun f=>f)) (by rw [<- hw10];exact hk10) ⟨rfl,rfl,rfl,rfl,rfl,rfl,trivial⟩) ?_
  rw [<- hw10]
  rintro a11 w11 ⟨hF,hk11,hm11⟩
  have hb11:=hm11.keep (hm10.keep HB9.out (fun f=>f)) (fun e=>hkb2 e.symm)
  have hmm:=HM9.out.then (hm10.then hm11 (S:=No) (fun i hi e=>absurd hi (by omega))) (fun i hi f=>f)
  refine hK6 _ _ ?_
  clear hK6 K6 c
  obtain ⟨ts,ds⟩:=a11
  obtain ⟨hsz,hds,hs2,hs14,-⟩:=hF
  dsimp only at hsz hds hs2 hs14
  subst hds
  obtain ⟨c,rfl,hc⟩:=lit128 ts hsz
  rw [hc] at hs2
  rw [hc] at hs14
  simp only [hs2,hs14]
  clear hc hsz hs2 hs14
  go_upto_region 41 with fail
  rename_i K7 hK7
  have hsz:(prog.info? 47).map (·.size)=some (bv (keyF hf)).toArray.size:=by
   rw [show (bv (keyF hf)).toArray.size=32 by simp [keyF]]
   kernel_rfl
  refine wp_region_lit ?_
  refine wpList_load_row rfl 47 _ rfl kb rfl 47 (bv (keyF hf)).toArray (0,0) _ hk11 underlying47 (by kernel_rfl) hsz ?_
  refine wpList_store_row rfl 47 _ _ rfl b2 (bv (keyF hf)).toArray rfl rfl 47 _ hb11 hsz (by simp [keyAt,keyF]) (by simp [bv,Value.oneCell']) ?_
  refine hK7 _ _ ?_
  refine wp_ret ?_
  exact bodyPost_ret (results_cell_row rfl _ _ b2 47 (bv (keyF hf)).toArray (0,0) _ rfl (setRow_heap _ _ _ _ _ _ hb11) underlying47 (by kernel_rfl) hsz) rfl (fin hR ⟨by rw [HSUM.out],hmm.then (T:=fun p=>p=b2) ⟨rfl,rfl,rfl,by simp [World.setRow],fun k hk hn=>setRow_other _ _ k _ hn⟩ (fun i hi e=>absurd hi (by have:=HBN.out;omega))⟩)
end Go.Proofs.YtmppeipgjcjdkaaGreatDoor
