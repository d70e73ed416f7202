/-
  Layers 0 to 14: helps of the laws of indexes. No statement is proved here; no condition.
-/
import Derived.Test.YtmppeipgjcjdkaaGreatDoorV05
import Derived.Test.YtmppeipgjcjdkaaGreatDoorV08
import Derived.Test.YtmppeipgjcjdkaaGreatDoorV00
import Derived.Test.YtmppeipgjcjdkaaGreatDoorV01
namespace Go.Proofs.YtmppeipgjcjdkaaGreatDoor
open _root_.Go.Proofs.Tryz
open Go.RowKit
noncomputable def blkT0:Code:=(blockAt 0 bodyT).getD .skip
noncomputable def blkT2:Code:=(blockAt 2 bodyT).getD .skip
noncomputable def blkT4:Code:=(blockAt 4 bodyT).getD .skip
def LpW (w0:World) (b:Nat->Int) (bb bo bn bc g:Nat) (v0:Value) (k:Nat) (a:Act) (w:World):Prop :=
 ∃ i,i+k=64/\Mod (fun q=>q=g) w0 w/\w.heap[g]? = some (.cells (wCells (wordsF b i)) 202 (0,0)) ∧
  Fr 196 [(0,v0),(1,.slice (some ⟨bb,bo,none⟩) bn bc),(4,.pointer (some ⟨g,0,none⟩)),(16,.int .i64 (i:Int))] a
set_option maxRecDepth 100000 in
set_option maxHeartbeats 4000000 in
theorem words_any (b:Nat->Int) (bb bo bn bc g:Nat) (v0:Value) (f:Act) (w:World) (hn:64<=bn) (hbg:bb ≠ g)
  (hb:∀ k,k < 64->w.cell? ⟨bb,bo+k,none⟩=some (.int .u8 (b k))) (hg:w.heap[g]? = some (.cells (wCells []) 202 (0,0)))
  (hF:Fr 196 [(0,v0),(1,.slice (some ⟨bb,bo,none⟩) bn bc),(4,.pointer (some ⟨g,0,none⟩)),(16,.int .i64 0)] f) :
  Code.wp prog blkT0 (Exit.then (fun a' w'=>Fr 196 [(0,v0),(1,.slice (some ⟨bb,bo,none⟩) bn bc),(4,.pointer (some ⟨g,0,none⟩))] a'/\w'.heap[g]? = some (.cells (wCells (wordsF b 64)) 202 (0,0))/\Mod (fun q=>q=g) w w') Nope) f w:=by
 refine wp_part fun J K' hJ hK=>?_
 have H0:=zh (show LpW w b bb bo bn bc g v0 64 f w from ⟨0,rfl,Mod.refl _ w,hg,hF⟩)
 have HB:=zh hb
 have HJ:=zh hJ
 obtain ⟨w0,hw0⟩:∃ w0,w0=w:=⟨_,rfl⟩
 rw [<- hw0] at HB HJ H0
 clear hb hF hJ hg
 conv=>arg 2;whnf
 go_step
 refine wp_loop_ghost_k (LpW w0 b bb bo bn bc g v0) 64 (by rw [hw0] at H0 ⊢;exact H0.out) ?_
 clear H0 hw0 f w
 intro k f w hI J2 K2 hJ2 hK2
 have HJ2:=zh hJ2
 obtain ⟨i,hik,hmod,hg,hF⟩:=hI
 have HG:=zh hg
 have HM:=zh hmod
 clear hJ2 hg hmod
 obtain ⟨ts,ds⟩:=f
 obtain ⟨hsz,hds,hs0,hs1,hs4,hs16,-⟩:=hF
 dsimp only at hsz hds hs0 hs1 hs4 hs16
 subst hds
 obtain ⟨c,rfl,hc⟩:=lit196 ts hsz
 rw [hc] at hs0
 rw [hc] at hs1
 rw [hc] at hs4
 rw [hc] at hs16
 simp only [hs0,hs1,hs4,hs16]
 clear hc hsz hs0 hs1 hs4 hs16
 have hi0:(0:Int)<=(i:Int):=Int.natCast_nonneg _
 by_cases hi:i < 64
 ·have hi64:(i:Int) < 64:=by omega
  go_upto_block 1 with fail
  rename_i K5 hK5
  have hnext:∀ a,Fr 196 [(0,v0),(1,.slice (some ⟨bb,bo,none⟩) bn bc),(4,.pointer (some ⟨g,0,none⟩)),(16,.int .i64 (i:Int))] a->Code.wp prog blkT1 (Exit.then (fun a' w'=>Fr 196 [(0,v0),(1,.slice (some ⟨bb,bo,none⟩) bn bc),(4,.pointer (some ⟨g,0,none⟩)),(16,.int .i64 (i:Int))] a'/\w'.heap[g]? = some (.cells (wCells (wordsF b (i+1))) 202 (0,0))/\Mod (fun q=>q=g) w w') Nope) a w:=fun a hF=>by
   by_cases h16:i < 16
   ·rw [wordsF_lo b h16]
    have hc:∀ j,j < 4->w.cell? ⟨bb,bo+(4*i+j),none⟩=some (.int .u8 (b (4*i+j))):=fun j hj=>HM.out.cell (HB.out _ (by omega)) (fun e=>hbg e)
    exact word_lo bb bo bn bc g i v0 _ _ _ _ _ _ w h16 hn (wordsF_length b i) HG.out (hc 0 (by omega)) (hc 1 (by omega)) (hc 2 (by omega)) (hc 3 (by omega)) hF
   ·rw [wordsF_hi b (by omega)]
    exact word_hi g i v0 _ _ _ _ _ _ _ w (by omega) hi (wordsF_length b i) HG.out (wordsF_at b (by omega)) (wordsF_at b (by omega)) (wordsF_at b (by omega)) (wordsF_at b (by omega)) hF
  refine wp_only (hnext _ ⟨rfl,rfl,rfl,rfl,rfl,rfl,trivial⟩) ?_
  clear hnext
  rintro a2 w2 ⟨hF,hg2,hm2⟩
  have HG2:=zh hg2
  have HM2:=zh (HM.out.trans hm2)
  clear hg2 hm2 HG
  refine hK5 _ _ ?_
  obtain ⟨ts,ds⟩:=a2
  obtain ⟨hsz,hds,hs0,hs1,hs4,hs16,-⟩:=hF
  dsimp only at hsz hds hs0 hs1 hs4 hs16
  subst hds
  obtain ⟨c,rfl,hc⟩:=lit196 ts hsz
  rw [hc] at hs0
  rw [hc] at hs1
  rw [hc] at hs4
  rw [hc] at hs16
  simp only [hs0,hs1,hs4,hs16]
  clear hc hsz hs0 hs1 hs4 hs16
  clear hK5 K5
  go_wp2_with fail
  exact Handed.intro (k - 1) (by omega) (HJ2.out _ _ _ ⟨i+1,by omega,HM2.out,HG2.out,rfl,rfl,rfl,rfl,rfl,by go_num,trivial⟩)
 ·have hi64:i=64:=by omega
  subst hi64
  go_wp2_with fail
  exact Met.intro (HJ.out _ _ ⟨⟨rfl,rfl,rfl,rfl,rfl,trivial⟩,HG.out,HM.out⟩)
def stA (h ks:List Int):Array Value:=((h++ks).map (Value.int .u32)).toArray
theorem stA_k {h ks:List Int} (hh:h.length=8) {i:Nat} {k:Int} (hk:ks[i]? = some k):(stA h ks)[8+i]? = some (.int .u32 k):=by
 unfold stA
 rw [List.getElem?_toArray,List.getElem?_map,List.getElem?_append_right (by omega),hh,Nat.add_sub_cancel_left,hk];rfl
theorem stA_h {u v ks:List Int} {x:Int}:(stA (u++x :: v) ks)[u.length]? = some (.int .u32 x):=by
 unfold stA
 rw [List.getElem?_toArray,List.getElem?_map,List.append_assoc,List.getElem?_append_right (Nat.le_refl _),Nat.sub_self];rfl
theorem stA_set {u v ks:List Int} {x y:Int}:(stA (u++x :: v) ks).setIfInBounds u.length (.int .u32 y)=stA ((u++[y])++v) ks:=by
 unfold stA
 rw [List.setIfInBounds_toArray,List.append_assoc,List.map_append,List.set_append_right _ _ (by simp)]
 simp
set_option maxRecDepth 100000 in
def LpR (w0:World) (q g sb:Nat) (v1:Value) (kws:List (Int × Int)) (fin:List Int) (k:Nat) (a:Act) (w:World):Prop :=
 ∃ i x0 x1 x2 x3 x4 x5 x6 x7,i+k=64/\(kws.drop i).foldl rndL [x0,x1,x2,x3,x4,x5,x6,x7]=fin/\Mod (fun p=>p=sb) w0 w/\w.heap[sb]? = some (.cells #[.int .u32 x0,.int .u32 x1,.int .u32 x2,.int .u32 x3,.int .u32 x4,.int .u32 x5,.int .u32 x6,.int .u32 x7] 200 (0,0)) ∧
  Fr 196 [(0,.pointer (some ⟨q,0,none⟩)),(1,v1),(4,.pointer (some ⟨g,0,none⟩)),(8,.pointer (some ⟨sb,0,none⟩)),(100,.int .i64 (i:Int))] a
set_option maxRecDepth 100000 in
set_option maxHeartbeats 4000000 in
theorem rounds_any (q g sb:Nat) (v1:Value) (x0 x1 x2 x3 x4 x5 x6 x7:Int) (h ks ws:List Int) (f:Act) (w:World) (hh:h.length=8) (hkl:ks.length=64) (hwl:ws.length=64) (hsq:sb ≠ q) (hsg:sb ≠ g)
  (hq:w.heap[q]? = some (.cells (stA h ks) 205 (0,0))) (hg:w.heap[g]? = some (.cells (wCells ws) 202 (0,0)))
  (hs:w.heap[sb]? = some (.cells #[.int .u32 x0,.int .u32 x1,.int .u32 x2,.int .u32 x3,.int .u32 x4,.int .u32 x5,.int .u32 x6,.int .u32 x7] 200 (0,0)))
  (hF:Fr 196 [(0,.pointer (some ⟨q,0,none⟩)),(1,v1),(4,.pointer (some ⟨g,0,none⟩)),(8,.pointer (some ⟨sb,0,none⟩)),(100,.int .i64 0)] f) :
  Code.wp prog blkT2 (Exit.then (fun a' w'=>Fr 196 [(0,.pointer (some ⟨q,0,none⟩)),(8,.pointer (some ⟨sb,0,none⟩))] a'/\(∃ y0 y1 y2 y3 y4 y5 y6 y7,(ks.zip ws).foldl rndL [x0,x1,x2,x3,x4,x5,x6,x7]=[y0,y1,y2,y3,y4,y5,y6,y7]/\w'.heap[sb]? = some (.cells #[.int .u32 y0,.int .u32 y1,.int .u32 y2,.int .u32 y3,.int .u32 y4,.int .u32 y5,.int .u32 y6,.int .u32 y7] 200 (0,0)))/\Mod (fun p=>p=sb) w w') Nope) f w:=by
 refine wp_part fun J K' hJ hK=>?_
 have H0:=zh (show LpR w q g sb v1 (ks.zip ws) ((ks.zip ws).foldl rndL [x0,x1,x2,x3,x4,x5,x6,x7]) 64 f w from ⟨0,x0,x1,x2,x3,x4,x5,x6,x7,rfl,rfl,Mod.refl _ w,hs,hF⟩)
 have HQ:=zh (And.intro hq hg)
 have HJ:=zh hJ
 obtain ⟨w0,hw0⟩:∃ w0,w0=w:=⟨_,rfl⟩
 rw [<- hw0] at HQ HJ H0
 obtain ⟨fin,hfin⟩:∃ fin,fin=(ks.zip ws).foldl rndL [x0,x1,x2,x3,x4,x5,x6,x7]:=⟨_,rfl⟩
 rw [<- hfin] at HJ H0
 clear hF hJ hg hs hq hfin
 conv=>arg 2;whnf
 go_step
 refine wp_loop_ghost_k (LpR w0 q g sb v1 (ks.zip ws) fin) 64 (by rw [hw0] at H0 ⊢;exact H0.out) ?_
 clear H0 hw0 f w x0 x1 x2 x3 x4 x5 x6 x7
 intro k f w hI J2 K2 hJ2 hK2
 have HJ2:=zh hJ2
 obtain ⟨i,x0,x1,x2,x3,x4,x5,x6,x7,hik,hfo,hmod,hsb,hF⟩:=hI
 have HG:=zh hsb
 have HM:=zh hmod
 have HFO:=zh hfo
 clear hJ2 hsb hmod hfo
 obtain ⟨ts,ds⟩:=f
 obtain ⟨hsz,hds,hs0,hs1,hs4,hs8,hs100,-⟩:=hF
 dsimp only at hsz hds hs0 hs1 hs4 hs8 hs100
 subst hds
 obtain ⟨c,rfl,hc⟩:=lit196 ts hsz
 rw [hc] at hs0
 rw [hc] at hs1
 rw [hc] at hs4
 rw [hc] at hs8
 rw [hc] at hs100
 simp only [hs0,hs1,hs4,hs8,hs100]
 clear hc hsz hs0 hs1 hs4 hs8 hs100
 have hi0:(0:Int)<=(i:Int):=Int.natCast_nonneg _
 by_cases hi:i < 64
 ·have hi64:(i:Int) < 64:=by omega
  have hk:=List.getElem?_eq_getElem (l:=ks) (i:=i) (by omega)
  have hw:=List.getElem?_eq_getElem (l:=ws) (i:=i) (by omega)
  have hd:(ks.zip ws).drop i=(ks[i],ws[i]) :: (ks.zip ws).drop (i+1):=by
   rw [List.drop_eq_getElem_cons (by rw [List.length_zip];omega),List.getElem_zip]
  generalize ks[i]=kk at *
  generalize ws[i]=wv at *
  have HK:=zh (And.intro hk (And.intro hw hd))
  clear hk hw hd
  go_upto_block 3 with fail
  rename_i K5 hK5
  refine wp_only (round_any q g sb i v1 x0 x1 x2 x3 x4 x5 x6 x7 kk wv (stA h ks) (wCells ws) _ w hi (HM.out.keep HQ.out.1 (fun e=>hsq e.symm)) (stA_k hh HK.out.1) (HM.out.keep HQ.out.2 (fun e=>hsg e.symm)) (wCells_old HK.out.2.1) HG.out ⟨rfl,rfl,rfl,rfl,rfl,rfl,rfl,trivial⟩) ?_
  rintro a2 w2 ⟨hF,hg2,hm2⟩
  have HG2:=zh hg2
  have HM2:=zh (HM.out.trans hm2)
  clear hg2 hm2 HG
  refine hK5 _ _ ?_
  obtain ⟨ts,ds⟩:=a2
  obtain ⟨hsz,hds,hs0,hs1,hs4,hs8,hs100,-⟩:=hF
  dsimp only at hsz hds hs0 hs1 hs4 hs8 hs100
  subst hds
  obtain ⟨c,rfl,hc⟩:=lit196 ts hsz
  rw [hc] at hs0
  rw [hc] at hs1
  rw [hc] at hs4
  rw [hc] at hs8
  rw [hc] at hs100
  simp only [hs0,hs1,hs4,hs8,hs100]
  clear hc hsz hs0 hs1 hs4 hs8 hs100
  clear hK5 K5
  go_wp2_with fail
  exact Handed.intro (k - 1) (by omega) (HJ2.out _ _ _ ⟨i+1,_,_,_,_,_,_,_,_,by omega,by have h1:=HFO.out;rw [HK.out.2.2] at h1;exact h1,HM2.out,HG2.out,rfl,rfl,rfl,rfl,rfl,rfl,by go_num,trivial⟩)
 ·have hi64:i=64:=by omega
  subst hi64
  have hd:(ks.zip ws).drop 64=[]:=List.drop_eq_nil_of_le (by rw [List.length_zip];omega)
  have HX:=zh (show [x0,x1,x2,x3,x4,x5,x6,x7]=fin by have h1:=HFO.out;rw [hd] at h1;exact h1)
  clear hd
  go_wp2_with fail
  exact Met.intro (HJ.out _ _ ⟨⟨rfl,rfl,rfl,rfl,trivial⟩,⟨_,_,_,_,_,_,_,_,HX.out.symm,HG.out⟩,HM.out⟩)
def LpA (w0:World) (q sb:Nat) (ks S:List Int) (fin:List Int) (k:Nat) (a:Act) (w:World):Prop :=
 ∃ u v y,u.length+k=8/\S.drop u.length=y/\v.length=k/\u++List.zipWith wd v y=fin/\Mod (fun p=>p=q) w0 w/\w.heap[q]? = some (.cells (stA (u++v) ks) 205 (0,0)) ∧
  Fr 196 [(0,.pointer (some ⟨q,0,none⟩)),(8,.pointer (some ⟨sb,0,none⟩)),(179,.int .i64 (u.length:Int))] a
set_option maxRecDepth 100000 in
set_option maxHeartbeats 4000000 in
theorem addeds_any (q sb:Nat) (h ks S:List Int) (f:Act) (w:World) (hh:h.length=8) (hSl:S.length=8) (hsq:sb ≠ q)
  (hq:w.heap[q]? = some (.cells (stA h ks) 205 (0,0)))
  (hs:w.heap[sb]? = some (.cells (S.map (Value.int .u32)).toArray 200 (0,0)))
  (hF:Fr 196 [(0,.pointer (some ⟨q,0,none⟩)),(8,.pointer (some ⟨sb,0,none⟩)),(179,.int .i64 0)] f) :
  Code.wp prog blkT4 (Exit.then (fun a' w'=>Fr 196 [] a'/\w'.heap[q]? = some (.cells (stA (List.zipWith wd h S) ks) 205 (0,0))/\Mod (fun p=>p=q) w w') Nope) f w:=by
 refine wp_part fun J K' hJ hK=>?_
 have H0:=zh (show LpA w q sb ks S (List.zipWith wd h S) 8 f w from ⟨[],h,S,rfl,rfl,hh,rfl,Mod.refl _ w,hq,hF⟩)
 have HS:=zh hs
 have HJ:=zh hJ
 obtain ⟨w0,hw0⟩:∃ w0,w0=w:=⟨_,rfl⟩
 rw [<- hw0] at HS HJ H0
 obtain ⟨fin,hfin⟩:∃ fin,fin=List.zipWith wd h S:=⟨_,rfl⟩
 rw [<- hfin] at HJ H0
 clear hF hJ hs hq hfin hh
 conv=>arg 2;whnf
 go_step
 refine wp_loop_ghost_k (LpA w0 q sb ks S fin) 8 (by rw [hw0] at H0 ⊢;exact H0.out) ?_
 clear H0 hw0 f w h
 intro k f w hI J2 K2 hJ2 hK2
 have HJ2:=zh hJ2
 obtain ⟨u,v,y,huk,hSd,hvk,hfo,hmod,hq,hF⟩:=hI
 have HQ:=zh hq
 have HM:=zh hmod
 have HFO:=zh hfo
 obtain ⟨i,hi⟩:∃ i,i=u.length:=⟨_,rfl⟩
 have HI:=zh hi
 rw [<- hi] at hF huk hSd
 clear hJ2 hq hmod hfo hi
 obtain ⟨ts,ds⟩:=f
 obtain ⟨hsz,hds,hs0,hs8,hs179,-⟩:=hF
 dsimp only at hsz hds hs0 hs8 hs179
 subst hds
 obtain ⟨c,rfl,hc⟩:=lit196 ts hsz
 rw [hc] at hs0
 rw [hc] at hs8
 rw [hc] at hs179
 simp only [hs0,hs8,hs179]
 clear hc hsz hs0 hs8 hs179
 have hi0:(0:Int)<=(i:Int):=Int.natCast_nonneg _
 by_cases hi:i < 8
 ·have hi8:(i:Int) < 8:=by omega
  obtain ⟨x,v',rfl⟩:∃ x v',v=x :: v':=by
   cases v with
   | nil=>simp at hvk;omega
   | cons x v'=>exact ⟨x,v',rfl⟩
  have hS1:=List.getElem?_eq_getElem (l:=S) (i:=i) (by omega)
  have hd:S.drop i=S[i] :: S.drop (i+1):=List.drop_eq_getElem_cons (by omega)
  generalize S[i]=y0 at *
  rw [hd] at hSd
  subst hSd
  have hs1:(S.map (Value.int .u32)).toArray[i]? = some (.int .u32 y0):=by rw [List.getElem?_toArray,List.getElem?_map,hS1];rfl
  have HS1:=zh hs1
  have HX:=zh (show (stA (u++x :: v') ks)[i]? = some (.int .u32 x) by rw [HI.out];exact stA_h)
  have HST:=zh (show (stA (u++x :: v') ks).setIfInBounds i (.int .u32 (wd x y0))=stA ((u++[wd x y0])++v') ks by rw [HI.out];exact stA_set)
  have hvl:v'.length=k - 1:=by simp at hvk;omega
  clear hs1 hS1 hd hvk
  go_upto_block 5 with fail
  rename_i K5 hK5
  refine wp_only (added_any q sb i x y0 _ _ _ w hi HQ.out HX.out (HM.out.keep HS.out hsq) HS1.out ⟨rfl,rfl,rfl,rfl,rfl,trivial⟩) ?_
  rintro a2 w2 ⟨hF,hg2,hm2⟩
  have HG2:=zh hg2
  have HM2:=zh (HM.out.trans hm2)
  clear hg2 hm2 HQ
  refine hK5 _ _ ?_
  obtain ⟨ts,ds⟩:=a2
  obtain ⟨hsz,hds,hs0,hs8,hs179,-⟩:=hF
  dsimp only at hsz hds hs0 hs8 hs179
  subst hds
  obtain ⟨c,rfl,hc⟩:=lit196 ts hsz
  rw [hc] at hs0
  rw [hc] at hs8
  rw [hc] at hs179
  simp only [hs0,hs8,hs179]
  clear hc hsz hs0 hs8 hs179
  clear hK5 K5
  have hu1:(u++[wd x y0]).length=i+1:=by rw [List.length_append,<- HI.out];rfl
  have HU:=zh hu1
  clear hu1
  go_wp2_with fail
  exact Handed.intro (k - 1) (by omega) (HJ2.out _ _ _ ⟨u++[wd x y0],v',S.drop (i+1),by rw [HU.out];omega,by rw [HU.out],hvl,by have h1:=HFO.out;rw [List.zipWith_cons_cons] at h1;rw [List.append_assoc];exact h1,HM2.out,by rw [<- HST.out];exact HG2.out,rfl,rfl,rfl,rfl,by rw [HU.out];go_num,trivial⟩)
 ·have hi8:i=8:=by omega
  subst hi8
  obtain rfl:v=[]:=List.length_eq_zero_iff.1 (by omega)
  have HFI:=zh (show u=fin by have h1:=HFO.out;simpa using h1)
  go_wp2_with fail
  exact Met.intro (HJ.out _ _ ⟨⟨rfl,rfl,trivial⟩,by rw [<- HFI.out];have h1:=HQ.out;rw [List.append_nil] at h1;exact h1,HM.out⟩)
set_option maxRecDepth 100000 in
set_option maxHeartbeats 4000000 in
theorem shaturn_any (b:Nat->Int) (q bb bo bn bc:Nat) (h ks:List Int) (w:World) (hh:h.length=8) (hkl:ks.length=64) (hn:64<=bn)
  (hq:w.heap[q]? = some (.cells (stA h ks) 205 (0,0))) (hb:∀ k,k < 64->w.cell? ⟨bb,bo+k,none⟩=some (.int .u8 (b k))) :
  Calls prog 116 #[.pointer (some ⟨q,0,none⟩),.slice (some ⟨bb,bo,none⟩) bn bc] w fun e w'=>(∃ v,e=.returned v)/\w'.heap[q]? = some (.cells (stA (blockF ks b h) ks) 205 (0,0))/\Mod (fun p=>p=q) w w':=by
 refine calls_hide fun R hR=>?_
 have HB:=zh hb
 have HQ:=zh hq
 clear hb hq
 go_enter func116,ntmps116
 go_upto_block 0 with fail
 rename_i K5 hK5
 obtain ⟨g,hg⟩:∃ g,g=w.heap.size:=⟨_,rfl⟩
 have hql:=lt_of_heap HQ.out
 have hqg:q ≠ g:=by omega
 have hbl:=lt_of_cell (HB.out 0 (by omega))
 dsimp only at hbl
 have hbg:bb ≠ g:=by omega
 rw [<- hg]
 have hg1:(w.alloc (.cells (wCells []) 202)).heap[g]? = some (.cells (wCells []) 202 (0,0)):=by rw [hg];exact heap_alloc_new w _
 have hm1:Mod No w (w.alloc (.cells (wCells []) 202)):=(Mod.refl No w).alloc _
 refine wp_only (words_any b bb bo bn bc g (.pointer (some ⟨q,0,none⟩)) _ (w.alloc (.cells (wCells []) 202)) hn hbg (fun k hk=>hm1.cell (HB.out k hk) (fun f=>f)) hg1 ⟨rfl,rfl,rfl,rfl,rfl,rfl,trivial⟩) ?_
 rintro a2 w2 ⟨hF,hg2,hm2⟩
 have hmw:Mod No w w2:=hm1.then hm2 (fun i hi e=>absurd hi (by omega))
 have HG2:=zh hg2
 have HM2:=zh hmw
 have HQ2:=zh (HM2.out.keep HQ.out (fun f=>f))
 refine hK5 _ _ ?_
 clear hg2 hm2 hm1 hg1 hK5 K5 HQ HB hmw
 obtain ⟨ts,ds⟩:=a2
 obtain ⟨hsz,hds,hs0,hs1,hs4,-⟩:=hF
 dsimp only at hsz hds hs0 hs1 hs4
 subst hds
 obtain ⟨c,rfl,hc⟩:=lit196 ts hsz
 rw [hc] at hs0
 rw [hc] at hs1
 rw [hc] at hs4
 simp only [hs0,hs1,hs4]
 clear hc hsz hs0 hs1 hs4
 obtain ⟨h0,h1,h2,h3,h4,h5,h6,h7,rfl⟩:=len8 hh
 have c0:=cell_ofA (i:=0) HQ2.out (v:=.int .u32 h0) rfl
 have c1:=cell_ofA (i:=1) HQ2.out (v:=.int .u32 h1) rfl
 have c2:=cell_ofA (i:=2) HQ2.out (v:=.int .u32 h2) rfl
 have c3:=cell_ofA (i:=3) HQ2.out (v:=.int .u32 h3) rfl
 have c4:=cell_ofA (i:=4) HQ2.out (v:=.int .u32 h4) rfl
 have c5:=cell_ofA (i:=5) HQ2.out (v:=.int .u32 h5) rfl
 have c6:=cell_ofA (i:=6) HQ2.out (v:=.int .u32 h6) rfl
 have c7:=cell_ofA (i:=7) HQ2.out (v:=.int .u32 h7) rfl
 clear hh
 go_upto_block 2 with fail
 rename_i K5 hK5
 obtain ⟨sb,hsb⟩:∃ sb,sb=w2.heap.size:=⟨_,rfl⟩
 have hql2:=lt_of_heap HQ2.out
 have hgl2:=lt_of_heap HG2.out
 have hsq:sb ≠ q:=by omega
 have hsg:sb ≠ g:=by omega
 rw [<- hsb]
 obtain ⟨w3,hw3⟩:∃ w3,w3=w2.alloc (.cells #[.int .u32 h0,.int .u32 h1,.int .u32 h2,.int .u32 h3,.int .u32 h4,.int .u32 h5,.int .u32 h6,.int .u32 h7] 200):=⟨_,rfl⟩
 have hg3:w3.heap[sb]? = some (.cells #[.int .u32 h0,.int .u32 h1,.int .u32 h2,.int .u32 h3,.int .u32 h4,.int .u32 h5,.int .u32 h6,.int .u32 h7] 200 (0,0)):=by rw [hw3,hsb];exact heap_alloc_new w2 _
 have hm3:Mod No w2 w3:=by rw [hw3];exact (Mod.refl No w2).alloc _
 rw [<- hw3]
 refine wp_only (rounds_any q g sb (.slice (some ⟨bb,bo,none⟩) bn bc) h0 h1 h2 h3 h4 h5 h6 h7 _ ks (wordsF b 64) _ w3 rfl hkl (wordsF_length b 64) hsq hsg (hm3.keep HQ2.out (fun f=>f)) (hm3.keep HG2.out (fun f=>f)) hg3 ⟨rfl,rfl,rfl,rfl,rfl,rfl,rfl,trivial⟩) ?_
 rintro a4 w4 ⟨hF,⟨y0,y1,y2,y3,y4,y5,y6,y7,hfo,hs4⟩,hm4⟩
 have HM4:=zh (HM2.out.then (hm3.then hm4 (S:=No) (fun i hi e=>absurd hi (by omega))) (fun i hi f=>f))
 have HQ4:=zh ((hm3.then hm4 (S:=No) (fun i hi e=>absurd hi (by omega))).keep HQ2.out (fun f=>f))
 have HS4:=zh hs4
 have HFO:=zh hfo
 refine hK5 _ _ ?_
 clear hs4 hfo hm3 hm4 hg3 hw3 hK5 K5 HQ2 HG2 HM2 c0 c1 c2 c3 c4 c5 c6 c7 c
 obtain ⟨ts,ds⟩:=a4
 obtain ⟨hsz,hds,hs0,hs8,-⟩:=hF
 dsimp only at hsz hds hs0 hs8
 subst hds
 obtain ⟨c,rfl,hc⟩:=lit196 ts hsz
 rw [hc] at hs0
 rw [hc] at hs8
 simp only [hs0,hs8]
 clear hc hsz hs0 hs8
 go_upto_block 4 with fail
 refine wp_mono (addeds_any q sb [h0,h1,h2,h3,h4,h5,h6,h7] ks [y0,y1,y2,y3,y4,y5,y6,y7] _ w4 rfl rfl hsq HQ4.out HS4.out ⟨rfl,rfl,rfl,rfl,rfl,trivial⟩) ?_
 rintro e a6 w6 hq
 cases e with
 | normal =>
  obtain ⟨hF,hq6,hm6⟩:=hq
  have HM6:=zh ((HM4.out.weaken fun _ _ f=>f.elim:Mod (fun p=>p=q) w w4).trans hm6)
  refine bodyPost_end (v:=.tuple #[]) (by simp [results,results116,go_sem]) hF.defers (fin hR ⟨⟨_,rfl⟩,by unfold blockF;rw [HFO.out];exact hq6,HM6.out⟩)
 | exit id=>exact hq.elim
 | goto l=>exact hq.elim
 | ret=>exact hq.elim
 | panic ch=>exact hq.elim
 | outgrown=>exact hq.elim
set_option maxRecDepth 100000 in
set_option maxHeartbeats 4000000 in
theorem shabegin_any (w:World) :
  Calls prog 114 #[] w fun e w'=>e=.returned (.agg (c8 h0))/\Mod No w w':=by
 refine calls_hide fun R hR=>?_
 go_enter func114,ntmps114
 go_upto_region 1 with fail
 rename_i K hK
 have HK:=zh hK
 clear hK
 refine wp_region_lit ?_
 refine wpList_builtAs rfl 200 _ rfl (c8 h0) (by kernel_rfl) ?_
 refine wpList_store_row rfl 200 _ _ rfl w.heap.size (c8 h0) rfl rfl 200 _ (heap_alloc_new w _) (by kernel_rfl) (by kernel_rfl) (by kernel_rfl) ?_
 refine HK.out _ _ ?_
 refine wp_ret ?_
 exact bodyPost_ret (results_cell_row rfl _ _ w.heap.size 200 (c8 h0) (0,0) _ rfl (setRow_heap _ _ _ _ _ _ (heap_alloc_new w _)) underlying200 (by kernel_rfl) (by kernel_rfl)) rfl (fin hR ⟨rfl,(Mod.alloc (Mod.refl No w) _).then (T:=fun p=>p=w.heap.size) ⟨rfl,rfl,rfl,by simp [World.setRow],fun k hk hn=>setRow_other _ _ k _ hn⟩ (fun i hi e=>absurd hi (by omega))⟩)
set_option maxRecDepth 100000 in
set_option maxHeartbeats 4000000 in
theorem rounds0_any (w:World) :
  Calls prog 115 #[] w fun e w'=>e=.returned (.agg (c8 k0))/\Mod No w w':=by
 refine calls_hide fun R hR=>?_
 go_enter func115,ntmps115
 go_upto_region 1 with fail
 rename_i K hK
 have HK:=zh hK
 clear hK
 refine wp_region_lit ?_
 refine wpList_builtAs rfl 202 _ rfl (c8 k0) (by kernel_rfl) ?_
 refine wpList_store_row rfl 202 _ _ rfl w.heap.size (c8 k0) rfl rfl 202 _ (heap_alloc_new w _) (by kernel_rfl) (by kernel_rfl) (by kernel_rfl) ?_
 refine HK.out _ _ ?_
 refine wp_ret ?_
 exact bodyPost_ret (results_cell_row rfl _ _ w.heap.size 202 (c8 k0) (0,0) _ rfl (setRow_heap _ _ _ _ _ _ (heap_alloc_new w _)) underlying202 (by kernel_rfl) (by kernel_rfl)) rfl (fin hR ⟨rfl,(Mod.alloc (Mod.refl No w) _).then (T:=fun p=>p=w.heap.size) ⟨rfl,rfl,rfl,by simp [World.setRow],fun k hk hn=>setRow_other _ _ k _ hn⟩ (fun i hi e=>absurd hi (by omega))⟩)
noncomputable def bodyM:Code:=Tryz.f52.body.getD .skip
noncomputable def blkM4:Code:=(blockAt 4 bodyM).getD .skip
set_option maxRecDepth 100000 in
theorem lit128 (t:Array Value) (h:t.size=128):∃ c:Nat->Value,t=#[c 0,c 1,c 2,c 3,c 4,c 5,c 6,c 7,c 8,c 9,c 10,c 11,c 12,c 13,c 14,c 15,c 16,c 17,c 18,c 19,c 20,c 21,c 22,c 23,c 24,c 25,c 26,c 27,c 28,c 29,c 30,c 31,c 32,c 33,c 34,c 35,c 36,c 37,c 38,c 39,c 40,c 41,c 42,c 43,c 44,c 45,c 46,c 47,c 48,c 49,c 50,c 51,c 52,c 53,c 54,c 55,c 56,c 57,c 58,c 59,c 60,c 61,c 62,c 63,c 64,c 65,c 66,c 67,c 68,c 69,c 70,c 71,c 72,c 73,c 74,c 75,c 76,c 77,c 78,c 79,c 80,c 81,c 82,c 83,c 84,c 85,c 86,c 87,c 88,c 89,c 90,c 91,c 92,c 93,c 94,c 95,c 96,c 97,c 98,c 99,c 100,c 101,c 102,c 103,c 104,c 105,c 106,c 107,c 108,c 109,c 110,c 111,c 112,c 113,c 114,c 115,c 116,c 117,c 118,c 119,c 120,c 121,c 122,c 123,c 124,c 125,c 126,c 127]/\∀ i,t.getD i undef=c i:=by
 refine ⟨fun i=>t.getD i undef,?_,fun _=>rfl⟩
 have h1:=arr_lits t
 rw [h] at h1
 exact h1.trans (by kernel_rfl)
def LpF (w0:World) (X:Nat->Prop) (l:List UInt8) (q:Nat) (h:List Int) (v2 v4 v5 v20 v21 v22:Value) (k:Nat) (a:Act) (w:World):Prop :=
 ∃ i V,i+k=l.length / 64/\Mod (fun p=>p=q) w0 w/\w.heap[q]? = some (.cells (stA (runF k0 i (bf l) h) k0) 205 (0,0))/\Sl w X 5 V (l.length - 64*i) (bv (l.drop (64*i))) ∧
  Fr 128 [(2,v2),(3,.pointer (some ⟨q,0,none⟩)),(4,v4),(5,v5),(7,V),(20,v20),(21,v21),(22,v22)] a
set_option maxRecDepth 100000 in
set_option maxHeartbeats 4000000 in
theorem fulls_any (X:Nat->Prop) (l:List UInt8) (q:Nat) (h:List Int) (v2 v4 v5 v20 v21 v22 V:Value) (f:Act) (w:World) (hX:X q) (hh:h.length=8)
  (hq:w.heap[q]? = some (.cells (stA h k0) 205 (0,0))) (hV:Sl w X 5 V l.length (bv l))
  (hF:Fr 128 [(2,v2),(3,.pointer (some ⟨q,0,none⟩)),(4,v4),(5,v5),(7,V),(20,v20),(21,v21),(22,v22)] f) :
  Code.wp prog blkM4 (Exit.then (fun a' w'=>(∃ V',Fr 128 [(2,v2),(3,.pointer (some ⟨q,0,none⟩)),(4,v4),(5,v5),(7,V'),(20,v20),(21,v21),(22,v22)] a'/\Sl w' X 5 V' (l.length % 64) (bv (l.drop (64*(l.length / 64))))) ∧
   w'.heap[q]? = some (.cells (stA (runF k0 (l.length / 64) (bf l) h) k0) 205 (0,0))/\Mod (fun p=>p=q) w w') Nope) f w:=by
 refine wp_part fun J K' hJ hK=>?_
 have H0:=zh (show LpF w X l q h v2 v4 v5 v20 v21 v22 (l.length / 64) f w from ⟨0,V,by omega,Mod.refl _ w,hq,hV,hF⟩)
 have HJ:=zh hJ
 have HX:=zh hX
 obtain ⟨w0,hw0⟩:∃ w0,w0=w:=⟨_,rfl⟩
 rw [<- hw0] at HJ H0
 clear hF hJ hq hV hX
 conv=>arg 2;whnf
 go_step
 refine wp_loop_ghost_k (LpF w0 X l q h v2 v4 v5 v20 v21 v22) (l.length / 64) (by rw [hw0] at H0 ⊢;exact H0.out) ?_
 clear H0 hw0 f w V
 intro k f w hI J2 K2 hJ2 hK2
 have HJ2:=zh hJ2
 obtain ⟨i,V,hik,hmod,hq,hV,hF⟩:=hI
 have HQ:=zh hq
 have HM:=zh hmod
 have HV:=zh hV
 clear hJ2 hq hmod
 obtain ⟨n,hn⟩:∃ n,n=l.length - 64*i:=⟨_,rfl⟩
 rw [<- hn] at hV HV
 have hdl:(l.drop (64*i)).length=n:=by rw [List.length_drop,hn]
 obtain ⟨va,vc,rfl⟩:=hV.len
 clear hV
 obtain ⟨ts,ds⟩:=f
 obtain ⟨hsz,hds,hs2,hs3,hs4,hs5,hs7,hs20,hs21,hs22,-⟩:=hF
 dsimp only at hsz hds hs2 hs3 hs4 hs5 hs7 hs20 hs21 hs22
 subst hds
 obtain ⟨c,rfl,hc⟩:=lit128 ts hsz
 rw [hc] at hs2
 rw [hc] at hs3
 rw [hc] at hs4
 rw [hc] at hs5
 rw [hc] at hs7
 rw [hc] at hs20
 rw [hc] at hs21
 rw [hc] at hs22
 simp only [hs2,hs3,hs4,hs5,hs7,hs20,hs21,hs22]
 clear hc hsz hs2 hs3 hs4 hs5 hs7 hs20 hs21 hs22
 by_cases hi:64<=n
 ·obtain ⟨bb,bo,vc',hVe,hb1,hb2,hb3⟩:=HV.out.shape (by omega)
  cases hVe
  have hi64:(64:Int)<=(n:Int):=by omega
  have HT:=zh (fun W (hq:W.heap[q]? = some (.cells (stA (runF k0 i (bf l) h) k0) 205 (0,0))) (hb:∀ k,k < 64->W.cell? ⟨bb,bo+k,none⟩=some (.int .u8 (bf (l.drop (64*i)) k)))=>shaturn_any (bf (l.drop (64*i))) q bb bo n vc (runF k0 i (bf l) h) k0 W (runF_length k0 i (bf l) h hh) rfl hi hq hb)
  have hcap:(64:Int)<=(vc:Int):=by omega
  have HD:=zh (HV.out.dropN (m:=64) (by simp [bv];omega) hi)
  have HBY:=zh (fun k (hk:k < 64)=>HV.out.bytes (k:=k) (by omega))
  have HNUM:=zh (And.intro hn (And.intro hdl hik))
  clear hn hdl
  go_wp2_with fail
  refine (HT.out w HQ.out HBY.out).mono ?_
  rintro e w2 ⟨⟨v,rfl⟩,hq2,hm2⟩
  have HQ2:=zh hq2
  have HM2:=zh (HM.out.trans hm2)
  have HD2:=zh (HD.out.keep hm2 (fun p cur fz e hx=>absurd HX.out (by rw [<- e];exact hx)))
  have HQ3:=zh (show w2.heap[q]? = some (.cells (stA (runF k0 (i+1) (bf l) h) k0) 205 (0,0)) by
   rw [show runF k0 (i+1) (bf l) h=blockF k0 (bf (l.drop (64*i))) (runF k0 i (bf l) h) by
    rw [runF_last];exact blockF_congr (fun k _=>(bf_drop l (64*i) k).symm) _]
   exact hq2)
  have hbd:(bv (l.drop (64*i))).drop 64=bv (l.drop (64*(i+1))):=by rw [<- bv_drop,List.drop_drop];congr 2
  have HBD:=zh hbd
  clear hbd
  clear hq2 hm2 HQ HM HT HBY HD HQ2
  by_cases hc:vc=64
  ·have hn64:n=64:=by omega
   subst hc hn64
   have HD3:=zh (show Sl w2 X 5 (.slice (some ⟨bb,bo,none⟩) 0 0) 0 ((bv (l.drop (64*i))).drop 64) from by simpa using HD2.out)
   clear HD2
   have HN:=zh (show l.length - 64*(i+1)=0 by have:=HNUM.out;omega)
   go_wp2_with fail
   exact Handed.intro (k - 1) (by have:=HNUM.out;omega) (HJ2.out _ _ _ ⟨i+1,_,by have:=HNUM.out;omega,HM2.out,HQ3.out,by rw [HN.out,<- HBD.out];exact HD3.out,rfl,rfl,rfl,rfl,rfl,rfl,rfl,rfl,rfl,rfl,trivial⟩)
  ·have hc1:(64:Int) < (vc:Int):=by omega
   have hc2:¬ ((vc:Int) - 64=0):=by omega
   have HD3:=zh (show Sl w2 X 5 (.slice (some ⟨bb,bo+64,none⟩) (n - 64) (vc - 64)) (n - 64) ((bv (l.drop (64*i))).drop 64) from by simpa [hc] using HD2.out)
   clear HD2
   have HN:=zh (show l.length - 64*(i+1)=n - 64 by have:=HNUM.out;omega)
   go_wp2_with fail
   exact Handed.intro (k - 1) (by have:=HNUM.out;omega) (HJ2.out _ _ _ ⟨i+1,_,by have:=HNUM.out;omega,HM2.out,HQ3.out,by rw [HN.out,<- HBD.out];exact HD3.out,rfl,rfl,rfl,rfl,rfl,rfl,rfl,rfl,rfl,rfl,trivial⟩)
 ·have hi64:(n:Int) < 64:=by omega
  have hk0:i=l.length / 64:=by omega
  have hr0:n=l.length % 64:=by omega
  subst hr0 hk0
  go_wp2_with fail
  exact Met.intro (HJ.out _ _ ⟨⟨_,⟨rfl,rfl,rfl,rfl,rfl,rfl,rfl,rfl,rfl,rfl,trivial⟩,HV.out⟩,HQ.out,HM.out⟩)
end Go.Proofs.YtmppeipgjcjdkaaGreatDoor
namespace Go.Proofs.YtmppeipgjcjdkaaGreatDoor
open _root_.Go.Proofs.Tryz
open Go.RowKit Go.Maps
theorem SvX.keepM {S X:Nat->Prop} {w w':World} {v:Value} {n:Nat} {xs:List Value} (h:SvX w X v n xs) (hm:Mod S w w') (hs:∀ (k:Nat) (cur:Array Value) (e:TypeId) (fz:Nat × Nat),S k->w.heap[k]? ≠ some (.cells cur e fz)):SvX w' X v n xs :=
 ⟨h.1,h.2.imp id fun ⟨e,h⟩=>⟨e,h.keep hm fun k cur fz a _ hc=>hs k cur e fz a hc⟩⟩
set_option maxRecDepth 100000 in
set_option maxHeartbeats 1000000 in
theorem clone_sv (v:Value) (l:List Value) (w:World) (h:SvX w No v l.length l) (h1:∀ u ∈ l,u.oneCell'=true) (hsz:l.length<=140737488355328) :
  Calls prog 81 #[v] w fun e w'=>(∃ v',e=.returned v'/\w'.ownsRow w.heap.size 5 1 v' l.length l)/\Mod No w w':=by
 obtain ⟨i0,hi,hz0,hz1,hz2⟩:=info_parts info_u8
 refine calls_hide fun R hR=>?_
 obtain ⟨⟨a,c,rfl⟩,h⟩:=h
 have e1:=Lib.run_eql_slice_nil (P:=prog)
 cases a with
 | none =>
  have hl:l=[]:=by
   rcases h with ⟨_,h⟩ | ⟨e,⟨_,_,h⟩ | ⟨blk,o,c,cur,fz,hv,_⟩⟩
   ·exact h
   ·exact h
   ·cases hv
  subst hl
  clear h
  go_enter func81,ntmps81
  go_wp2
  exact fin hR ⟨⟨.slice none 0 0,rfl,World.ownsRow_nil _ _ _ _⟩,Mod.refl _ _⟩
 | some ad =>
  have hown:(w.alloc (.cells #[] 5)).ownsRow w.heap.size 5 1 (.slice (some ⟨w.heap.size,0,none⟩) 0 0) 0 []:=World.ownsRow_lit w #[] 0 (Nat.le_refl _) (by unfold maxLen;omega) rfl
  have HO:=zh hown
  clear hown
  have key:∀ (u:Value) (W:World),W.ownsRow w.heap.size 5 1 u l.length l->(w.alloc (.cells #[] 5)).grownBy W (some w.heap.size)->R (.returned u) W:=fun u W h1 h2 =>
   fin hR ⟨⟨u,rfl,h1⟩,((Mod.refl No w).alloc _).then (Mod.of_grown (S:=fun k=>k=w.heap.size) h2 (by rintro k ⟨⟩ _;rfl)) (fun i hi e=>by subst e;omega)⟩
  have HK:=zh key
  clear key
  rcases h with ⟨hn,h⟩ | ⟨e,h⟩
  ·subst h
   go_enter func81,ntmps81
   go_wp2_with (at_builtin;refine wpList_append_own _ rfl _ _ 41 rfl w.heap.size 5 i0 (.int .u8 0) 1 1 underlying41 hi hz0 hz1 hz2 rfl (by decide) _ _ _ rfl HO.out ad 0 c [] rfl rfl (fun j u hu=>by simp at hu) (fun u hu=>by cases hu) ?_ ?_ ?_ ?_)
   ·unfold maxLen;omega
   ·omega
   ·simp
   intro v' w1 hown' hg _
   have HO':=zh hown'
   have HG:=zh hg
   clear hown' hg
   go_wp2
   exact HK.out _ _ HO'.out HG.out
  ·have hsl:Sl (w.alloc (.cells #[] 5)) No e (.slice (some ad) l.length c) l.length l:=h.keep (S:=No) ((Mod.refl No w).alloc _) (fun _ _ _ f=>f.elim)
   have HS:=zh hsl
   clear hsl h
   go_enter func81,ntmps81
   go_wp2_with (at_builtin;refine app_sl _ rfl _ _ 41 rfl w.heap.size 5 i0 (.int .u8 0) 1 1 underlying41 hi hz0 hz1 hz2 rfl (by decide) _ _ _ rfl HO.out No e _ _ _ rfl HS.out ?_ h1 ?_ ?_ ?_ ?_)
   ·simp
   ·unfold maxLen;omega
   ·omega
   ·simp
   intro v' w1 hown' hg _
   have HO':=zh (show w1.ownsRow w.heap.size 5 1 v' l.length l by simpa using hown')
   have HG:=zh hg
   clear hown' hg
   go_wp2
   exact HK.out _ _ HO'.out HG.out
end Go.Proofs.YtmppeipgjcjdkaaGreatDoor
