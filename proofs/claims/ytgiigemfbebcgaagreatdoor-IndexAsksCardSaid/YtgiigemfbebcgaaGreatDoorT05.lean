/-
  Layers 0 to 14: helps of the laws of indexes. No statement is proved here; no condition.
-/
import Derived.Test.YtgiigemfbebcgaaGreatDoorT04
namespace Go.Proofs.YtgiigemfbebcgaaGreatDoor
open _root_.Go.Proofs.Tryz
open Go.RowKit
set_option maxRecDepth 100000 in
set_option maxHeartbeats 4000000 in
theorem rword_hi (g i:Nat) (v2 v3 v4 v5 v6:Value) (a16 a15 a7 a2:Int) (ws:List Int) (a:Act) (w:World) (hi:16<=i) (hi2:i < 64) (hws:ws.length=i) (hg:w.heap[g]? = some (.cells (wCells ws) 148 (0,0)))
  (h16:ws[i - 16]? = some a16) (h15:ws[i - 15]? = some a15) (h7:ws[i - 7]? = some a7) (h2:ws[i - 2]? = some a2)
  (hF:Fr 259 [(2,v2),(3,v3),(4,v4),(5,v5),(6,v6),(7,.pointer (some ⟨g,0,none⟩)),(9,.int .i64 (i:Int))] a) :
  Code.wp prog blkW5 (Exit.then (fun a' w'=>Fr 259 [(2,v2),(3,v3),(4,v4),(5,v5),(6,v6),(7,.pointer (some ⟨g,0,none⟩)),(9,.int .i64 (i:Int))] a'/\w'.heap[g]? = some (.cells (wCells (ws++[nextW a16 a15 a7 a2])) 148 (0,0))/\Mod (fun q=>q=g) w w') Nope) a w:=by
 refine wp_part fun J K' hJ hK=>?_
 obtain ⟨ts,ds⟩:=a
 obtain ⟨hsz,hds,hs2,hs3,hs4,hs5,hs6,hs7,hs9,-⟩:=hF
 dsimp only at hsz hds hs2 hs3 hs4 hs5 hs6 hs7 hs9
 subst hds
 obtain ⟨c,rfl,hc⟩:=lit259 ts hsz
 rw [hc] at hs2
 rw [hc] at hs3
 rw [hc] at hs4
 rw [hc] at hs5
 rw [hc] at hs6
 rw [hc] at hs7
 rw [hc] at hs9
 simp only [hs2,hs3,hs4,hs5,hs6,hs7,hs9]
 clear hc hsz hs2 hs3 hs4 hs5 hs6 hs7 hs9
 have hi0:(16:Int)<=(i:Int):=by omega
 have hi64:(i:Int) < 64:=by omega
 have HG0:=zh hg
 have c16:=cell_ofA hg (wCells_old h16)
 have c15:=cell_ofA hg (wCells_old h15)
 have c7:=cell_ofA hg (wCells_old h7)
 have c2:=cell_ofA hg (wCells_old h2)
 obtain ⟨k16,hk16⟩:∃ k,k=i - 16:=⟨_,rfl⟩
 obtain ⟨k15,hk15⟩:∃ k,k=i - 15:=⟨_,rfl⟩
 obtain ⟨k7,hk7⟩:∃ k,k=i - 7:=⟨_,rfl⟩
 obtain ⟨k2,hk2⟩:∃ k,k=i - 2:=⟨_,rfl⟩
 rw [<- hk16] at c16
 rw [<- hk15] at c15
 rw [<- hk7] at c7
 rw [<- hk2] at c2
 have e16:(i:Int) - 16=(k16:Int):=by omega
 have e15:(i:Int) - 15=(k15:Int):=by omega
 have e7:(i:Int) - 7=(k7:Int):=by omega
 have e2:(i:Int) - 2=(k2:Int):=by omega
 have b16:(k16:Int) < 64:=by omega
 have b15:(k15:Int) < 64:=by omega
 have b7:(k7:Int) < 64:=by omega
 have b2:(k2:Int) < 64:=by omega
 have n16:(0:Int)<=(k16:Int):=Int.natCast_nonneg _
 have n15:(0:Int)<=(k15:Int):=Int.natCast_nonneg _
 have n7:(0:Int)<=(k7:Int):=Int.natCast_nonneg _
 have n2:(0:Int)<=(k2:Int):=Int.natCast_nonneg _
 have E16:=zh (show IntKind.i64.wrap (k16:Int)=(k16:Int) by rw [IntKind.wrap_i64];omega)
 have E7:=zh (show IntKind.i64.wrap (k7:Int)=(k7:Int) by rw [IntKind.wrap_i64];omega)
 have C16w:=zh c16
 have C7w:=zh c7
 have R7:=zh (show ∀ W,Calls prog 101 #[.int .u32 a15,.int .i64 7] W fun e w'=>e=.returned (.int .u32 (rotR 7 a15))/\Mod No W w' from fun W=>refturn_any a15 7 (by decide) (by decide) W)
 have R18:=zh (show ∀ W,Calls prog 101 #[.int .u32 a15,.int .i64 18] W fun e w'=>e=.returned (.int .u32 (rotR 18 a15))/\Mod No W w' from fun W=>refturn_any a15 18 (by decide) (by decide) W)
 have R17:=zh (show ∀ W,Calls prog 101 #[.int .u32 a2,.int .i64 17] W fun e w'=>e=.returned (.int .u32 (rotR 17 a2))/\Mod No W w' from fun W=>refturn_any a2 17 (by decide) (by decide) W)
 have R19:=zh (show ∀ W,Calls prog 101 #[.int .u32 a2,.int .i64 19] W fun e w'=>e=.returned (.int .u32 (rotR 19 a2))/\Mod No W w' from fun W=>refturn_any a2 19 (by decide) (by decide) W)
 clear hg h16 h15 h7 h2 hk16 hk15 hk7 hk2 c16 c7
 conv=>arg 2;whnf
 go_upto_region 15 with fail
 go_quiet (fail)
 generalize hw1:World.drewN w _=w1
 have hm1:Mod No w w1:=by rw [<- hw1];exact (Mod.refl No w).drewN _
 have HM1:=zh hm1
 clear hw1 hm1 c15 c2
 go_upto_region 16 with fail
 obtain ⟨wA,hwA⟩:∃ y,y=w1.drew:=⟨_,rfl⟩
 have HWA:=zh hwA
 have HMA:=zh (show Mod No w wA by rw [hwA];exact HM1.out.drew)
 have HG:=zh (HMA.out.keep HG0.out (fun f=>f))
 have C16:=zh (HMA.out.cell C16w.out (fun f=>f))
 have C7:=zh (HMA.out.cell C7w.out (fun f=>f))
 have hS0:=Mod.refl No wA
 clear hwA HG0 C16w C7w
 refine wp_region_T (fun w'=>Mod No wA w') 29 (by kernel_rfl) ?_
 rw [<- HWA.out]
 refine wpAnyT_take 0 (some 94) ?_ rfl rfl (by kernel_rfl) (fun _ _ _ h=>h) hS0 (Or.inl ⟨by rfl,?_⟩) ?_
 rotate_left
 ·(intro w' hSw;go_simp;try with_reducible rfl)
 simp only [Act.put,yB,yC,yD]
 refine wpAnyT_take 1 (some 95) ?_ rfl rfl (by kernel_rfl) (fun _ _ _ h=>h) hS0 (Or.inl ⟨by rfl,?_⟩) ?_
 rotate_left
 ·(intro w' hSw;go_simp;try with_reducible rfl)
 simp only [Act.put,yB,yC,yD]
 refine wpAnyT_take 2 (some 96) (.int .i64 (k16:Int)) rfl rfl (by kernel_rfl) (fun _ _ _ h=>h) hS0 (Or.inl ⟨by rfl,?_⟩) ?_
 ·(intro w' hSw;go_simp;exact E16.out)
 simp only [Act.put,yB,yC,yD]
 refine wpAnyT_take 3 (some 97) ?_ rfl rfl (by kernel_rfl) (fun _ _ _ h=>h) hS0 (Or.inl ⟨by rfl,?_⟩) ?_
 rotate_left
 ·(intro w' hSw;go_simp;try with_reducible rfl)
 simp only [Act.put,yB,yC,yD]
 refine wpAnyT_take 4 (some 98) ?_ rfl rfl (by kernel_rfl) (fun _ _ _ h=>h) hS0 (Or.inl ⟨by rfl,?_⟩) ?_
 rotate_left
 ·(intro w' hSw;have cc:=hSw.cell C16.out (fun f=>f);go_simp;try with_reducible rfl)
 simp only [Act.put,yB,yC,yD]
 refine wpAnyT_take 5 (some 99) ?_ rfl rfl (by kernel_rfl) (fun _ _ _ h=>h) hS0 (Or.inl ⟨by rfl,?_⟩) ?_
 rotate_left
 ·(intro w' hSw;go_simp;try with_reducible rfl)
 simp only [Act.put,yB,yC,yD]
 refine wpAnyT_take 7 (some 101) ?_ rfl rfl (by kernel_rfl) (fun _ _ _ h=>h) hS0 (Or.inl ⟨by rfl,?_⟩) ?_
 rotate_left
 ·(intro w' hSw;go_simp;try with_reducible rfl)
 simp only [Act.put,yB,yC,yD]
 refine wpAnyT_take 10 (some 104) ?_ rfl rfl (by kernel_rfl) (fun _ _ _ h=>h) hS0 (Or.inl ⟨by rfl,?_⟩) ?_
 rotate_left
 ·(intro w' hSw;go_simp;try with_reducible rfl)
 simp only [Act.put,yB,yC,yD]
 refine wpAnyT_take 11 (some 105) ?_ rfl rfl (by kernel_rfl) (fun _ _ _ h=>h) hS0 (Or.inl ⟨by rfl,?_⟩) ?_
 rotate_left
 ·(intro w' hSw;go_simp;try with_reducible rfl)
 simp only [Act.put,yB,yC,yD]
 refine wpAnyT_take 14 (some 108) ?_ rfl rfl (by kernel_rfl) (fun _ _ _ h=>h) hS0 (Or.inl ⟨by rfl,?_⟩) ?_
 rotate_left
 ·(intro w' hSw;go_simp;try with_reducible rfl)
 simp only [Act.put,yB,yC,yD]
 refine wpAnyT_take 15 (some 109) (.int .i64 (k7:Int)) rfl rfl (by kernel_rfl) (fun _ _ _ h=>h) hS0 (Or.inl ⟨by rfl,?_⟩) ?_
 ·(intro w' hSw;go_simp;exact E7.out)
 simp only [Act.put,yB,yC,yD]
 refine wpAnyT_take 16 (some 110) ?_ rfl rfl (by kernel_rfl) (fun _ _ _ h=>h) hS0 (Or.inl ⟨by rfl,?_⟩) ?_
 rotate_left
 ·(intro w' hSw;go_simp;try with_reducible rfl)
 simp only [Act.put,yB,yC,yD]
 refine wpAnyT_take 17 (some 111) ?_ rfl rfl (by kernel_rfl) (fun _ _ _ h=>h) hS0 (Or.inl ⟨by rfl,?_⟩) ?_
 rotate_left
 ·(intro w' hSw;have cc:=hSw.cell C7.out (fun f=>f);go_simp;try with_reducible rfl)
 simp only [Act.put,yB,yC,yD]
 refine wpAnyT_take 19 (some 113) ?_ rfl rfl (by kernel_rfl) (fun _ _ _ h=>h) hS0 (Or.inl ⟨by rfl,?_⟩) ?_
 rotate_left
 ·(intro w' hSw;go_simp;try with_reducible rfl)
 simp only [Act.put,yB,yC,yD]
 refine wpAnyT_take 21 (some 115) ?_ rfl rfl (by kernel_rfl) (fun _ _ _ h=>h) hS0 (Or.inl ⟨by rfl,?_⟩) ?_
 rotate_left
 ·(intro w' hSw;go_simp;try with_reducible rfl)
 simp only [Act.put,yB,yC,yD]
 refine wpAnyT_take 24 (some 118) ?_ rfl rfl (by kernel_rfl) (fun _ _ _ h=>h) hS0 (Or.inl ⟨by rfl,?_⟩) ?_
 rotate_left
 ·(intro w' hSw;go_simp;try with_reducible rfl)
 simp only [Act.put,yB,yC,yD]
 refine wpAnyT_take 25 (some 119) ?_ rfl rfl (by kernel_rfl) (fun _ _ _ h=>h) hS0 (Or.inl ⟨by rfl,?_⟩) ?_
 rotate_left
 ·(intro w' hSw;go_simp;try with_reducible rfl)
 simp only [Act.put,yB,yC,yD]
 refine wpAnyT_one 6 rfl (by kernel_rfl) rfl ?_
 intro K hK
 go_simp
 go_at_call 101
 with_reducible refine (R7.out _).mono ?_
 rintro e x_6 ⟨rfl,hmx_6⟩
 show K _ _
 have hS1:=Mod.trans hS0 hmx_6
 refine hK.out _ _ (fun _=>hS1) ?_
 clear hK K
 refine wpAnyT_one 8 rfl (by kernel_rfl) rfl ?_
 intro K hK
 go_simp
 go_at_call 101
 with_reducible refine (R18.out _).mono ?_
 rintro e x_6_8 ⟨rfl,hmx_6_8⟩
 show K _ _
 have hS2:=Mod.trans hS1 hmx_6_8
 refine hK.out _ _ (fun _=>hS2) ?_
 clear hK K
 refine wpAnyT_take 9 (some 103) ?_ rfl rfl (by kernel_rfl) (fun _ _ _ h=>h) hS2 (Or.inl ⟨by rfl,?_⟩) ?_
 rotate_left
 ·(intro w' hSw;go_simp;try with_reducible rfl)
 simp only [Act.put,yB,yC,yD]
 refine wpAnyT_take 12 (some 106) ?_ rfl rfl (by kernel_rfl) (fun _ _ _ h=>h) hS2 (Or.inl ⟨by rfl,?_⟩) ?_
 rotate_left
 ·(intro w' hSw;go_simp;try with_reducible rfl)
 simp only [Act.put,yB,yC,yD]
 refine wpAnyT_take 13 (some 107) ?_ rfl rfl (by kernel_rfl) (fun _ _ _ h=>h) hS2 (Or.inl ⟨by rfl,?_⟩) ?_
 rotate_left
 ·(intro w' hSw;go_simp;try with_reducible rfl)
 simp only [Act.put,yB,yC,yD]
 refine wpAnyT_take 18 (some 112) ?_ rfl rfl (by kernel_rfl) (fun _ _ _ h=>h) hS2 (Or.inl ⟨by rfl,?_⟩) ?_
 rotate_left
 ·(intro w' hSw;go_simp;try with_reducible rfl)
 simp only [Act.put,yB,yC,yD]
 refine wpAnyT_one 20 rfl (by kernel_rfl) rfl ?_
 intro K hK
 go_simp
 go_at_call 101
 with_reducible refine (R17.out _).mono ?_
 rintro e x_6_8_20 ⟨rfl,hmx_6_8_20⟩
 show K _ _
 have hS3:=Mod.trans hS2 hmx_6_8_20
 refine hK.out _ _ (fun _=>hS3) ?_
 clear hK K
 refine wpAnyT_one 22 rfl (by kernel_rfl) rfl ?_
 intro K hK
 go_simp
 go_at_call 101
 with_reducible refine (R19.out _).mono ?_
 rintro e x_6_8_20_22 ⟨rfl,hmx_6_8_20_22⟩
 show K _ _
 have hS4:=Mod.trans hS3 hmx_6_8_20_22
 refine hK.out _ _ (fun _=>hS4) ?_
 clear hK K
 refine wpAnyT_take 23 (some 117) ?_ rfl rfl (by kernel_rfl) (fun _ _ _ h=>h) hS4 (Or.inl ⟨by rfl,?_⟩) ?_
 rotate_left
 ·(intro w' hSw;go_simp;try with_reducible rfl)
 simp only [Act.put,yB,yC,yD]
 refine wpAnyT_take 26 (some 120) ?_ rfl rfl (by kernel_rfl) (fun _ _ _ h=>h) hS4 (Or.inl ⟨by rfl,?_⟩) ?_
 rotate_left
 ·(intro w' hSw;go_simp;try with_reducible rfl)
 simp only [Act.put,yB,yC,yD]
 refine wpAnyT_take 27 (some 121) ?_ rfl rfl (by kernel_rfl) (fun _ _ _ h=>h) hS4 (Or.inl ⟨by rfl,?_⟩) ?_
 rotate_left
 ·(intro w' hSw;go_simp;try with_reducible rfl)
 simp only [Act.put,yB,yC,yD]
 refine wpAnyT_take 28 (some 122) ?_ rfl rfl (by kernel_rfl) (fun _ _ _ h=>h) hS4 (Or.inl ⟨by rfl,?_⟩) ?_
 rotate_left
 ·(intro w' hSw;go_simp;try with_reducible rfl)
 simp only [Act.put,yB,yC,yD]
 refine wpAnyT_one 29 rfl (by kernel_rfl) rfl ?_
 intro K hK
 have HG5:=zh (hS4.keep HG.out (fun f=>f))
 have cg:=cell_ofA HG5.out (wCells_new hws (by omega))
 have fg:=frozen_of i HG5.out
 obtain ⟨w6,hw6⟩:∃ w6,w6=(x_6_8_20_22.setCell ⟨g,i,none⟩ (.int .u32 (nextW a16 a15 a7 a2))):=⟨_,rfl⟩
 have HR6:=zh (show w6.heap[g]? = some (.cells (wCells (ws++[nextW a16 a15 a7 a2])) 148 (0,0)) by rw [hw6,heap_setCell HG5.out,wCells_set hws (by omega)])
 have HM6:=zh (show Mod (fun q=>q=g) wA w6 by rw [hw6];exact (((hS4.weaken fun _ _ f=>f.elim:Mod (fun q=>q=g) wA x_6_8_20_22)).setCell (p:=⟨g,i,none⟩) (fun _=>rfl) _))
 have HW6:=zh hw6
 clear hw6
 unfold nextW wd sg0 sg1 xo at HW6
 go_simp
 rw [<- HW6.out]
 show K _ _
 refine hK.out _ _ (fun h=>absurd rfl h) ?_
 clear hK K
 refine wpAnyT_done (by kernel_rfl) ?_ _
 go_wp2_with fail
 exact Met.intro (hJ _ _ ⟨⟨rfl,rfl,rfl,rfl,rfl,rfl,rfl,rfl,rfl,trivial⟩,HR6.out,(HMA.out.weaken fun _ _ f=>f.elim:Mod (fun q=>q=g) w wA).trans HM6.out⟩)
def LpV (w0:World) (b:Nat->Int) (g:Nat) (v2 v3 v4 v5 v6:Value) (k:Nat) (a:Act) (w:World):Prop :=
 ∃ i,i+k=64/\16<=i/\Mod (fun q=>q=g) w0 w/\w.heap[g]? = some (.cells (wCells (wordsF b i)) 148 (0,0)) ∧
  Fr 259 [(2,v2),(3,v3),(4,v4),(5,v5),(6,v6),(7,.pointer (some ⟨g,0,none⟩)),(9,.int .i64 (i:Int))] a
set_option maxRecDepth 100000 in
set_option maxHeartbeats 4000000 in
theorem rwords_hi (b:Nat->Int) (g:Nat) (v2 v3 v4 v5 v6:Value) (f:Act) (w:World)
  (hg:w.heap[g]? = some (.cells (wCells (wordsF b 16)) 148 (0,0)))
  (hF:Fr 259 [(2,v2),(3,v3),(4,v4),(5,v5),(6,v6),(7,.pointer (some ⟨g,0,none⟩)),(9,.int .i64 16)] f) :
  Code.wp prog blkW4 (Exit.then (fun a' w'=>Fr 259 [(2,v2),(3,v3),(4,v4),(5,v5),(6,v6),(7,.pointer (some ⟨g,0,none⟩))] a'/\w'.heap[g]? = some (.cells (wCells (wordsF b 64)) 148 (0,0))/\Mod (fun q=>q=g) w w') Nope) f w:=by
 refine wp_part fun J K' hJ hK=>?_
 have H0:=zh (show LpV w b g v2 v3 v4 v5 v6 48 f w from ⟨16,rfl,Nat.le_refl _,Mod.refl _ w,hg,hF⟩)
 have HJ:=zh hJ
 obtain ⟨w0,hw0⟩:∃ w0,w0=w:=⟨_,rfl⟩
 rw [<- hw0] at HJ H0
 clear hF hJ hg
 conv=>arg 2;whnf
 go_step
 refine wp_loop_ghost_k (LpV w0 b g v2 v3 v4 v5 v6) 48 (by rw [hw0] at H0 ⊢;exact H0.out) ?_
 clear H0 hw0 f w
 intro k f w hI J2 K2 hJ2 hK2
 have HJ2:=zh hJ2
 obtain ⟨i,hik,h16,hmod,hg,hF⟩:=hI
 have HG:=zh hg
 have HM:=zh hmod
 clear hJ2 hg hmod
 obtain ⟨ts,ds⟩:=f
 obtain ⟨hsz,hds,hs2,hs3,hs4,hs5,hs6,hs7,hs9,-⟩:=hF
 dsimp only at hsz hds hs2 hs3 hs4 hs5 hs6 hs7 hs9
 subst hds
 obtain ⟨c,rfl,hc⟩:=lit259 ts hsz
 rw [hc] at hs2
 rw [hc] at hs3
 rw [hc] at hs4
 rw [hc] at hs5
 rw [hc] at hs6
 rw [hc] at hs7
 rw [hc] at hs9
 simp only [hs2,hs3,hs4,hs5,hs6,hs7,hs9]
 clear hc hsz hs2 hs3 hs4 hs5 hs6 hs7 hs9
 have hi0:(0:Int)<=(i:Int):=Int.natCast_nonneg _
 by_cases hi:i < 64
 ·have hi64:(i:Int) < 64:=by omega
  go_upto_block 5 with fail
  rename_i K5 hK5
  refine wp_only (rword_hi g i v2 v3 v4 v5 v6 _ _ _ _ _ _ w h16 hi (wordsF_length b i) HG.out (wordsF_at b (by omega)) (wordsF_at b (by omega)) (wordsF_at b (by omega)) (wordsF_at b (by omega)) ⟨rfl,rfl,rfl,rfl,rfl,rfl,rfl,rfl,rfl,trivial⟩) ?_
  rintro a2 w2 ⟨hF,hg2,hm2⟩
  rw [<- wordsF_hi b h16] at hg2
  have HG2:=zh hg2
  have HM2:=zh (HM.out.trans hm2)
  clear hg2 hm2 HG
  refine hK5 _ _ ?_
  obtain ⟨ts,ds⟩:=a2
  obtain ⟨hsz,hds,hs2,hs3,hs4,hs5,hs6,hs7,hs9,-⟩:=hF
  dsimp only at hsz hds hs2 hs3 hs4 hs5 hs6 hs7 hs9
  subst hds
  obtain ⟨c,rfl,hc⟩:=lit259 ts hsz
  rw [hc] at hs2
  rw [hc] at hs3
  rw [hc] at hs4
  rw [hc] at hs5
  rw [hc] at hs6
  rw [hc] at hs7
  rw [hc] at hs9
  simp only [hs2,hs3,hs4,hs5,hs6,hs7,hs9]
  clear hc hsz hs2 hs3 hs4 hs5 hs6 hs7 hs9
  clear hK5 K5
  go_wp2_with fail
  exact Handed.intro (k - 1) (by omega) (HJ2.out _ _ _ ⟨i+1,by omega,by omega,HM2.out,HG2.out,rfl,rfl,rfl,rfl,rfl,rfl,rfl,rfl,by go_num,trivial⟩)
 ·have hi64:i=64:=by omega
  subst hi64
  go_wp2_with fail
  exact Met.intro (HJ.out _ _ ⟨⟨rfl,rfl,rfl,rfl,rfl,rfl,rfl,rfl,trivial⟩,HG.out,HM.out⟩)
theorem oneF_wd (e f g h k w:Int):wd (wd (wd (wd h (bigE e)) (chF e f g)) k) w=oneF e f g h k w:=by
 unfold oneF wd
 generalize bigE e=b
 generalize chF e f g=c
 simp only [IntKind.wrap_u32]
 omega
theorem twoF_wd (a b c:Int):wd (bigA a) (majF a b c)=twoF a b c:=by
 unfold twoF wd
 exact IntKind.wrap_u32 _
set_option maxRecDepth 100000 in
set_option maxHeartbeats 8000000 in
theorem rround_any (kb g i:Nat) (v2 v3 v5 v6:Value) (x0 x1 x2 x3 x4 x5 x6 x7 kk wv:Int) (KS ws:Array Value) (a:Act) (w:World) (hi:i < 64)
  (hq:w.heap[kb]? = some (.cells KS 148 (0,0))) (hk:KS[i]? = some (.int .u32 kk)) (hg:w.heap[g]? = some (.cells ws 148 (0,0))) (hw:ws[i]? = some (.int .u32 wv))
  (hF:Fr 259 [(2,v2),(3,v3),(4,.pointer (some ⟨kb,0,none⟩)),(5,v5),(6,v6),(7,.pointer (some ⟨g,0,none⟩)),(12,.int .u32 x0),(13,.int .u32 x1),(14,.int .u32 x2),(15,.int .u32 x3),(16,.int .u32 x4),(17,.int .u32 x5),(18,.int .u32 x6),(19,.int .u32 x7),(20,.int .i64 (i:Int))] a) :
  Code.wp prog blkW7 (Exit.then (fun a' w'=>Fr 259 [(2,v2),(3,v3),(4,.pointer (some ⟨kb,0,none⟩)),(5,v5),(6,v6),(7,.pointer (some ⟨g,0,none⟩)),(12,.int .u32 (wd (oneF x4 x5 x6 x7 kk wv) (twoF x0 x1 x2))),(13,.int .u32 x0),(14,.int .u32 x1),(15,.int .u32 x2),(16,.int .u32 (wd x3 (oneF x4 x5 x6 x7 kk wv))),(17,.int .u32 x4),(18,.int .u32 x5),(19,.int .u32 x6),(20,.int .i64 (i:Int))] a'/\Mod No w w') Nope) a w:=by
 refine wp_part fun J K' hJ hK=>?_
 obtain ⟨ts,ds⟩:=a
 obtain ⟨hsz,hds,hs2,hs3,hs4,hs5,hs6,hs7,hs12,hs13,hs14,hs15,hs16,hs17,hs18,hs19,hs20,-⟩:=hF
 dsimp only at hsz hds hs2 hs3 hs4 hs5 hs6 hs7 hs12 hs13 hs14 hs15 hs16 hs17 hs18 hs19 hs20
 subst hds
 obtain ⟨c,rfl,hc⟩:=lit259 ts hsz
 rw [hc] at hs2
 rw [hc] at hs3
 rw [hc] at hs4
 rw [hc] at hs5
 rw [hc] at hs6
 rw [hc] at hs7
 rw [hc] at hs12
 rw [hc] at hs13
 rw [hc] at hs14
 rw [hc] at hs15
 rw [hc] at hs16
 rw [hc] at hs17
 rw [hc] at hs18
 rw [hc] at hs19
 rw [hc] at hs20
 simp only [hs2,hs3,hs4,hs5,hs6,hs7,hs12,hs13,hs14,hs15,hs16,hs17,hs18,hs19,hs20]
 clear hc hsz hs2 hs3 hs4 hs5 hs6 hs7 hs12 hs13 hs14 hs15 hs16 hs17 hs18 hs19 hs20
 have hi0:(0:Int)<=(i:Int):=Int.natCast_nonneg _
 have hi64:(i:Int) < 64:=by omega
 have CK0:=zh (cell_ofA hq hk)
 have CW0:=zh (cell_ofA hg hw)
 have R6:=zh (show ∀ W,Calls prog 101 #[.int .u32 x4,.int .i64 6] W fun e w'=>e=.returned (.int .u32 (rotR 6 x4))/\Mod No W w' from fun W=>refturn_any x4 6 (by decide) (by decide) W)
 have R11:=zh (show ∀ W,Calls prog 101 #[.int .u32 x4,.int .i64 11] W fun e w'=>e=.returned (.int .u32 (rotR 11 x4))/\Mod No W w' from fun W=>refturn_any x4 11 (by decide) (by decide) W)
 have R25:=zh (show ∀ W,Calls prog 101 #[.int .u32 x4,.int .i64 25] W fun e w'=>e=.returned (.int .u32 (rotR 25 x4))/\Mod No W w' from fun W=>refturn_any x4 25 (by decide) (by decide) W)
 have R2:=zh (show ∀ W,Calls prog 101 #[.int .u32 x0,.int .i64 2] W fun e w'=>e=.returned (.int .u32 (rotR 2 x0))/\Mod No W w' from fun W=>refturn_any x0 2 (by decide) (by decide) W)
 have R13:=zh (show ∀ W,Calls prog 101 #[.int .u32 x0,.int .i64 13] W fun e w'=>e=.returned (.int .u32 (rotR 13 x0))/\Mod No W w' from fun W=>refturn_any x0 13 (by decide) (by decide) W)
 have R22:=zh (show ∀ W,Calls prog 101 #[.int .u32 x0,.int .i64 22] W fun e w'=>e=.returned (.int .u32 (rotR 22 x0))/\Mod No W w' from fun W=>refturn_any x0 22 (by decide) (by decide) W)
 obtain ⟨X,hX⟩:∃ X,X=oneF x4 x5 x6 x7 kk wv:=⟨_,rfl⟩
 obtain ⟨Y,hY⟩:∃ Y,Y=twoF x0 x1 x2:=⟨_,rfl⟩
 have EX:=zh (show wd (wd (wd (wd x7 (bigE x4)) (chF x4 x5 x6)) kk) wv=X by rw [hX,oneF_wd])
 have EY:=zh (show wd (bigA x0) (majF x0 x1 x2)=Y by rw [hY,twoF_wd])
 rw [<- hX,<- hY] at hJ
 have HJ:=zh hJ
 clear hX hY hq hk hg hw hJ
 conv=>arg 2;whnf
 go_upto_region 21 with fail
 obtain ⟨wA,hwA⟩:∃ y,y=w.drew:=⟨_,rfl⟩
 have HWA:=zh hwA
 have HMA:=zh (show Mod No w wA by rw [hwA];exact (Mod.refl No w).drew)
 have CK:=zh (HMA.out.cell CK0.out (fun f=>f))
 have CW:=zh (HMA.out.cell CW0.out (fun f=>f))
 have hS0:=Mod.refl No wA
 clear hwA CK0 CW0
 refine wp_region_T (fun w'=>Mod No wA w') 99 (by kernel_rfl) ?_
 rw [<- HWA.out]
 refine yT 0 (some 143) ?_ hS0 ?_ ?_
 rotate_left
 ·(intro w' hSw;go_simp;try with_reducible rfl)
 simp only [Act.put,yB,yC,yD]
 refine yT 1 (some 144) ?_ hS0 ?_ ?_
 rotate_left
 ·(intro w' hSw;go_simp;try with_reducible rfl)
 simp only [Act.put,yB,yC,yD]
 refine yT 3 (some 146) ?_ hS0 ?_ ?_
 rotate_left
 ·(intro w' hSw;go_simp;try with_reducible rfl)
 simp only [Act.put,yB,yC,yD]
 refine yT 6 (some 149) ?_ hS0 ?_ ?_
 rotate_left
 ·(intro w' hSw;go_simp;try with_reducible rfl)
 simp only [Act.put,yB,yC,yD]
 refine yT 10 (some 153) ?_ hS0 ?_ ?_
 rotate_left
 ·(intro w' hSw;go_simp;try with_reducible rfl)
 simp only [Act.put,yB,yC,yD]
 refine yT 11 (some 154) ?_ hS0 ?_ ?_
 rotate_left
 ·(intro w' hSw;go_simp;try with_reducible rfl)
 simp only [Act.put,yB,yC,yD]
 refine yT 12 (some 155) ?_ hS0 ?_ ?_
 rotate_left
 ·(intro w' hSw;go_simp;try with_reducible rfl)
 simp only [Act.put,yB,yC,yD]
 refine yT 13 (some 156) ?_ hS0 ?_ ?_
 rotate_left
 ·(intro w' hSw;go_simp;try with_reducible rfl)
 simp only [Act.put,yB,yC,yD]
 refine yT 14 (some 157) ?_ hS0 ?_ ?_
 rotate_left
 ·(intro w' hSw;go_simp;try with_reducible rfl)
 simp only [Act.put,yB,yC,yD]
 refine yT 15 (some 158) ?_ hS0 ?_ ?_
 rotate_left
 ·(intro w' hSw;go_simp;try with_reducible rfl)
 simp only [Act.put,yB,yC,yD]
 refine yT 16 (some 159) ?_ hS0 ?_ ?_
 rotate_left
 ·(intro w' hSw;go_simp;try with_reducible rfl)
 simp only [Act.put,yB,yC,yD]
 refine yT 17 (some 160) ?_ hS0 ?_ ?_
 rotate_left
 ·(intro w' hSw;go_simp;try with_reducible rfl)
 simp only [Act.put,yB,yC,yD]
 refine yT 19 (some 162) ?_ hS0 ?_ ?_
 rotate_left
 ·(intro w' hSw;go_simp;try with_reducible rfl)
 simp only [Act.put,yB,yC,yD]
 refine yT 20 (some 163) ?_ hS0 ?_ ?_
 rotate_left
 ·(intro w' hSw;go_simp;try with_reducible rfl)
 simp only [Act.put,yB,yC,yD]
 refine yT 21 (some 164) ?_ hS0 ?_ ?_
 rotate_left
 ·(intro w' hSw;have cc:=hSw.cell CK.out (fun f=>f);go_simp;try with_reducible rfl)
 simp only [Act.put,yB,yC,yD]
 refine yT 23 (some 166) ?_ hS0 ?_ ?_
 rotate_left
 ·(intro w' hSw;go_simp;try with_reducible rfl)
 simp only [Act.put,yB,yC,yD]
 refine yT 24 (some 167) ?_ hS0 ?_ ?_
 rotate_left
 ·(intro w' hSw;go_simp;try with_reducible rfl)
 simp only [Act.put,yB,yC,yD]
 refine yT 25 (some 168) ?_ hS0 ?_ ?_
 rotate_left
 ·(intro w' hSw;have cc:=hSw.cell CW.out (fun f=>f);go_simp;try with_reducible rfl)
 simp only [Act.put,yB,yC,yD]
 refine wpAnyT_one 2 rfl (by kernel_rfl) rfl ?_
 intro K hK
 go_simp
 go_at_call 101
 with_reducible refine (R6.out _).mono ?_
 rintro e wA_2 ⟨rfl,hmwA_2⟩
 show K _ _
 have hS1:=Mod.trans hS0 hmwA_2
 refine hK.out _ _ (fun _=>hS1) ?_
 clear hK K
 refine wpAnyT_one 4 rfl (by kernel_rfl) rfl ?_
 intro K hK
 go_simp
 go_at_call 101
 with_reducible refine (R11.out _).mono ?_
 rintro e wA_2_4 ⟨rfl,hmwA_2_4⟩
 show K _ _
 have hS2:=Mod.trans hS1 hmwA_2_4
 refine hK.out _ _ (fun _=>hS2) ?_
 clear hK K
 refine yT 5 (some 148) ?_ hS2 ?_ ?_
 rotate_left
 ·(intro w' hSw;go_simp;try with_reducible rfl)
 simp only [Act.put,yB,yC,yD]
 refine wpAnyT_one 7 rfl (by kernel_rfl) rfl ?_
 intro K hK
 go_simp
 go_at_call 101
 with_reducible refine (R25.out _).mono ?_
 rintro e wA_2_4_7 ⟨rfl,hmwA_2_4_7⟩
 show K _ _
 have hS3:=Mod.trans hS2 hmwA_2_4_7
 refine hK.out _ _ (fun _=>hS3) ?_
 clear hK K
 refine yT 8 (some 151) ?_ hS3 ?_ ?_
 rotate_left
 ·(intro w' hSw;go_simp;try with_reducible rfl)
 simp only [Act.put,yB,yC,yD]
 refine yT 9 (some 152) ?_ hS3 ?_ ?_
 rotate_left
 ·(intro w' hSw;go_simp;try with_reducible rfl)
 simp only [Act.put,yB,yC,yD]
 refine yT 18 (some 161) ?_ hS3 ?_ ?_
 rotate_left
 ·(intro w' hSw;go_simp;try with_reducible rfl)
 simp only [Act.put,yB,yC,yD]
 refine yT 22 (some 165) ?_ hS3 ?_ ?_
 rotate_left
 ·(intro w' hSw;go_simp;try with_reducible rfl)
 simp only [Act.put,yB,yC,yD]
 refine yT 26 (some 169) (.int .u32 X) hS3 ?_ ?_
 ·(intro w' hSw;go_simp;exact EX.out)
 simp only [Act.put,yB,yC,yD]
 refine yT 27 (some 21) ?_ hS3 ?_ ?_
 rotate_left
 ·(intro w' hSw;go_simp;try with_reducible rfl)
 simp only [Act.put]
 refine wpAnyT_done (by kernel_rfl) ?_ _
 have HM1:=zh (HMA.out.trans hS3)
 clear hS0 hS1 hS2 hS3 HMA CK CW EX HWA R6 R11 R25
 go_wp2_with fail
 with_reducible refine (R2.out _).mono ?_
 rintro e w2 ⟨rfl,hmw2⟩
 have HMw2:=zh (HM1.out.trans hmw2)
 clear hmw2 HM1 R2
 go_wp2_with fail
 with_reducible refine (R13.out _).mono ?_
 rintro e w3 ⟨rfl,hmw3⟩
 have HMw3:=zh (HMw2.out.trans hmw3)
 clear hmw3 HMw2 R13
 go_wp2_with fail
 with_reducible refine (R22.out _).mono ?_
 rintro e w4 ⟨rfl,hmw4⟩
 have HMw4:=zh (HMw3.out.trans hmw4)
 clear hmw4 HMw3 R22
 go_upto_region 23 with fail
 have hY2:(bits .xor .u32 (bits .xor .u32 (rotR 2 x0) (rotR 13 x0)) (rotR 22 x0)+bits .xor .u32 (bits .xor .u32 (bits .and .u32 x0 x1) (bits .and .u32 x0 x2)) (bits .and .u32 x1 x2)) % 4294967296=Y:=by rw [<- EY.out,twoF_wd];rfl
 rw [hY2]
 clear hY2
 go_wp2_with fail
 have hJ:=HJ.out
 have hwa:wd X Y=(X+Y) % 4294967296:=IntKind.wrap_u32 _
 have hwb:wd x3 X=(x3+X) % 4294967296:=IntKind.wrap_u32 _
 rw [hwa,hwb] at hJ
 exact Met.intro (hJ _ _ ⟨⟨rfl,rfl,rfl,rfl,rfl,rfl,rfl,rfl,rfl,rfl,rfl,rfl,rfl,rfl,rfl,rfl,rfl,trivial⟩,HMw4.out⟩)
def LpY (w0:World) (kb g:Nat) (v2 v3 v5 v6:Value) (kws:List (Int × Int)) (fin:List Int) (k:Nat) (a:Act) (w:World):Prop :=
 ∃ i x0 x1 x2 x3 x4 x5 x6 x7,i+k=64/\(kws.drop i).foldl rndL [x0,x1,x2,x3,x4,x5,x6,x7]=fin/\Mod No w0 w ∧
  Fr 259 [(2,v2),(3,v3),(4,.pointer (some ⟨kb,0,none⟩)),(5,v5),(6,v6),(7,.pointer (some ⟨g,0,none⟩)),(12,.int .u32 x0),(13,.int .u32 x1),(14,.int .u32 x2),(15,.int .u32 x3),(16,.int .u32 x4),(17,.int .u32 x5),(18,.int .u32 x6),(19,.int .u32 x7),(20,.int .i64 (i:Int))] a
set_option maxRecDepth 100000 in
set_option maxHeartbeats 4000000 in
theorem rrounds_any (kb g:Nat) (v2 v3 v5 v6:Value) (x0 x1 x2 x3 x4 x5 x6 x7:Int) (ks ws:List Int) (f:Act) (w:World) (hkl:ks.length=64) (hwl:ws.length=64)
  (hq:w.heap[kb]? = some (.cells (c8 ks) 148 (0,0))) (hg:w.heap[g]? = some (.cells (wCells ws) 148 (0,0)))
  (hF:Fr 259 [(2,v2),(3,v3),(4,.pointer (some ⟨kb,0,none⟩)),(5,v5),(6,v6),(7,.pointer (some ⟨g,0,none⟩)),(12,.int .u32 x0),(13,.int .u32 x1),(14,.int .u32 x2),(15,.int .u32 x3),(16,.int .u32 x4),(17,.int .u32 x5),(18,.int .u32 x6),(19,.int .u32 x7),(20,.int .i64 0)] f) :
  Code.wp prog blkW6 (Exit.then (fun a' w'=>(∃ y0 y1 y2 y3 y4 y5 y6 y7,(ks.zip ws).foldl rndL [x0,x1,x2,x3,x4,x5,x6,x7]=[y0,y1,y2,y3,y4,y5,y6,y7]/\Fr 259 [(2,v2),(3,v3),(4,.pointer (some ⟨kb,0,none⟩)),(5,v5),(6,v6),(12,.int .u32 y0),(13,.int .u32 y1),(14,.int .u32 y2),(15,.int .u32 y3),(16,.int .u32 y4),(17,.int .u32 y5),(18,.int .u32 y6),(19,.int .u32 y7)] a')/\Mod No w w') Nope) f w:=by
 refine wp_part fun J K' hJ hK=>?_
 have H0:=zh (show LpY w kb g v2 v3 v5 v6 (ks.zip ws) ((ks.zip ws).foldl rndL [x0,x1,x2,x3,x4,x5,x6,x7]) 64 f w from ⟨0,x0,x1,x2,x3,x4,x5,x6,x7,rfl,rfl,Mod.refl _ w,hF⟩)
 have HQ:=zh (And.intro hq hg)
 have HJ:=zh hJ
 obtain ⟨w0,hw0⟩:∃ w0,w0=w:=⟨_,rfl⟩
 rw [<- hw0] at HQ HJ H0
 obtain ⟨fin,hfin⟩:∃ fin,fin=(ks.zip ws).foldl rndL [x0,x1,x2,x3,x4,x5,x6,x7]:=⟨_,rfl⟩
 rw [<- hfin] at HJ H0
 clear hF hJ hg hq hfin
 conv=>arg 2;whnf
 go_step
 refine wp_loop_ghost_k (LpY w0 kb g v2 v3 v5 v6 (ks.zip ws) fin) 64 (by rw [hw0] at H0 ⊢;exact H0.out) ?_
 clear H0 hw0 f w x0 x1 x2 x3 x4 x5 x6 x7
 intro k f w hI J2 K2 hJ2 hK2
 have HJ2:=zh hJ2
 obtain ⟨i,x0,x1,x2,x3,x4,x5,x6,x7,hik,hfo,hmod,hF⟩:=hI
 have HM:=zh hmod
 have HFO:=zh hfo
 clear hJ2 hmod hfo
 obtain ⟨ts,ds⟩:=f
 obtain ⟨hsz,hds,hs2,hs3,hs4,hs5,hs6,hs7,hs12,hs13,hs14,hs15,hs16,hs17,hs18,hs19,hs20,-⟩:=hF
 dsimp only at hsz hds hs2 hs3 hs4 hs5 hs6 hs7 hs12 hs13 hs14 hs15 hs16 hs17 hs18 hs19 hs20
 subst hds
 obtain ⟨c,rfl,hc⟩:=lit259 ts hsz
 rw [hc] at hs2
 rw [hc] at hs3
 rw [hc] at hs4
 rw [hc] at hs5
 rw [hc] at hs6
 rw [hc] at hs7
 rw [hc] at hs12
 rw [hc] at hs13
 rw [hc] at hs14
 rw [hc] at hs15
 rw [hc] at hs16
 rw [hc] at hs17
 rw [hc] at hs18
 rw [hc] at hs19
 rw [hc] at hs20
 simp only [hs2,hs3,hs4,hs5,hs6,hs7,hs12,hs13,hs14,hs15,hs16,hs17,hs18,hs19,hs20]
 clear hc hsz hs2 hs3 hs4 hs5 hs6 hs7 hs12 hs13 hs14 hs15 hs16 hs17 hs18 hs19 hs20
 have hi0:(0:Int)<=(i:Int):=Int.natCast_nonneg _
 by_cases hi:i < 64
 ·have hi64:(i:Int) < 64:=by omega
  have hk:=List.getElem?_eq_getElem (l:=ks) (i:=i) (by omega)
  have hw:=List.getElem?_eq_getElem (l:=ws) (i:=i) (by omega)
  have hd:(ks.zip ws).drop i=(ks[i],ws[i]) :: (ks.zip ws).drop (i+1):=by
   rw [List.drop_eq_getElem_cons (by rw [List.length_zip];omega),List.getElem_zip]
  generalize ks[i]=kk at *
  generalize ws[i]=wv at *
  have hk8:(c8 ks)[i]? = some (.int .u32 kk):=by unfold c8;rw [List.getElem?_toArray,List.getElem?_map,hk];rfl
  have HK:=zh (And.intro hk8 (And.intro hw hd))
  clear hk hw hd hk8
  go_upto_block 7 with fail
  rename_i K5 hK5
  refine wp_only (rround_any kb g i v2 v3 v5 v6 x0 x1 x2 x3 x4 x5 x6 x7 kk wv (c8 ks) (wCells ws) _ w hi (HM.out.keep HQ.out.1 (fun f=>f)) HK.out.1 (HM.out.keep HQ.out.2 (fun f=>f)) (wCells_old HK.out.2.1) ⟨rfl,rfl,rfl,rfl,rfl,rfl,rfl,rfl,rfl,rfl,rfl,rfl,rfl,rfl,rfl,rfl,rfl,trivial⟩) ?_
  rintro a2 w2 ⟨hF,hm2⟩
  have HM2:=zh (HM.out.trans hm2)
  clear hm2
  refine hK5 _ _ ?_
  obtain ⟨ts,ds⟩:=a2
  obtain ⟨hsz,hds,hs2,hs3,hs4,hs5,hs6,hs7,hs12,hs13,hs14,hs15,hs16,hs17,hs18,hs19,hs20,-⟩:=hF
  dsimp only at hsz hds hs2 hs3 hs4 hs5 hs6 hs7 hs12 hs13 hs14 hs15 hs16 hs17 hs18 hs19 hs20
  subst hds
  obtain ⟨c,rfl,hc⟩:=lit259 ts hsz
  rw [hc] at hs2
  rw [hc] at hs3
  rw [hc] at hs4
  rw [hc] at hs5
  rw [hc] at hs6
  rw [hc] at hs7
  rw [hc] at hs12
  rw [hc] at hs13
  rw [hc] at hs14
  rw [hc] at hs15
  rw [hc] at hs16
  rw [hc] at hs17
  rw [hc] at hs18
  rw [hc] at hs19
  rw [hc] at hs20
  simp only [hs2,hs3,hs4,hs5,hs6,hs7,hs12,hs13,hs14,hs15,hs16,hs17,hs18,hs19,hs20]
  clear hc hsz hs2 hs3 hs4 hs5 hs6 hs7 hs12 hs13 hs14 hs15 hs16 hs17 hs18 hs19 hs20
  clear hK5 K5
  go_wp2_with fail
  exact Handed.intro (k - 1) (by omega) (HJ2.out _ _ _ ⟨i+1,_,_,_,_,_,_,_,_,by omega,by have h1:=HFO.out;rw [HK.out.2.2] at h1;exact h1,HM2.out,rfl,rfl,rfl,rfl,rfl,rfl,rfl,rfl,rfl,rfl,rfl,rfl,rfl,rfl,rfl,rfl,by go_num,trivial⟩)
 ·have hi64:i=64:=by omega
  subst hi64
  have hd:(ks.zip ws).drop 64=[]:=List.drop_eq_nil_of_le (by rw [List.length_zip];omega)
  have HX:=zh (show [x0,x1,x2,x3,x4,x5,x6,x7]=fin by have h1:=HFO.out;rw [hd] at h1;exact h1)
  clear hd
  go_wp2_with fail
  exact Met.intro (HJ.out _ _ ⟨⟨_,_,_,_,_,_,_,_,HX.out.symm,rfl,rfl,rfl,rfl,rfl,rfl,rfl,rfl,rfl,rfl,rfl,rfl,rfl,rfl,rfl,trivial⟩,HM.out⟩)
noncomputable def blkW0:Code:=(blockAt 0 bodyW).getD .skip
noncomputable def blkW1:Code:=(blockAt 1 bodyW).getD .skip
set_option maxRecDepth 100000 in
set_option maxHeartbeats 4000000 in
theorem rblock_any (b:Nat->Int) (sb kb bb bo bn bc at':Nat) (v2:Value) (h:List Int) (f:Act) (w:World) (hh:h.length=8) (hn:at'+64<=bn) (hbn:bn<=281474976710656)
  (hs:w.heap[sb]? = some (.cells (c8 h) 147 (0,0))) (hk:w.heap[kb]? = some (.cells (c8 k0) 148 (0,0)))
  (hb:∀ k,k < 64->w.cell? ⟨bb,bo+(at'+k),none⟩=some (.int .u8 (b k)))
  (hF:Fr 259 [(2,v2),(3,.pointer (some ⟨sb,0,none⟩)),(4,.pointer (some ⟨kb,0,none⟩)),(5,.slice (some ⟨bb,bo,none⟩) bn bc),(6,.int .i64 (at':Int))] f) :
  Code.wp prog blkW1 (Exit.then (fun a' w'=>Fr 259 [(2,v2),(3,.pointer (some ⟨sb,0,none⟩)),(4,.pointer (some ⟨kb,0,none⟩)),(5,.slice (some ⟨bb,bo,none⟩) bn bc),(6,.int .i64 (at':Int))] a'/\w'.heap[sb]? = some (.cells (c8 (blockF k0 b h)) 147 (0,0))/\Mod (fun p=>p=sb) w w') Nope) f w:=by
 refine wp_part fun J K' hJ hK=>?_
 have HB:=zh hb
 have HS:=zh hs
 have HK:=zh hk
 have HJ:=zh hJ
 clear hb hs hk hJ
 obtain ⟨ts,ds⟩:=f
 obtain ⟨hsz,hds,hs2,hs3,hs4,hs5,hs6,-⟩:=hF
 dsimp only at hsz hds hs2 hs3 hs4 hs5 hs6
 subst hds
 obtain ⟨c,rfl,hc⟩:=lit259 ts hsz
 rw [hc] at hs2
 rw [hc] at hs3
 rw [hc] at hs4
 rw [hc] at hs5
 rw [hc] at hs6
 simp only [hs2,hs3,hs4,hs5,hs6]
 clear hc hsz hs2 hs3 hs4 hs5 hs6
 conv=>arg 2;whnf
 go_upto_block 2 with fail
 rename_i K5 hK5
 obtain ⟨g,hg⟩:∃ g,g=w.heap.size:=⟨_,rfl⟩
 have hsl:=lt_of_heap HS.out
 have hkl:=lt_of_heap HK.out
 have hbl:=lt_of_cell (HB.out 0 (by omega))
 dsimp only at hbl
 have hsg:sb ≠ g:=by omega
 have hkg:kb ≠ g:=by omega
 have hbg:bb ≠ g:=by omega
 rw [<- hg]
 have hg1:(w.alloc (.cells (wCells []) 148)).heap[g]? = some (.cells (wCells []) 148 (0,0)):=by rw [hg];exact heap_alloc_new w _
 have hm1:Mod No w (w.alloc (.cells (wCells []) 148)):=(Mod.refl No w).alloc _
 have HGN:=zh (show w.heap.size<=g by omega)
 refine wp_only (rwords_lo b bb bo bn bc g at' v2 (.pointer (some ⟨sb,0,none⟩)) (.pointer (some ⟨kb,0,none⟩)) _ (w.alloc (.cells (wCells []) 148)) hn hbn hbg (fun k hk=>hm1.cell (HB.out k hk) (fun f=>f)) hg1 ⟨rfl,rfl,rfl,rfl,rfl,rfl,rfl,rfl,rfl,trivial⟩) ?_
 rintro a2 w2 ⟨hF,hg2,hm2⟩
 have HG2:=zh hg2
 have HM2:=zh (hm1.then hm2 (S:=No) (fun i hi e=>absurd hi (by have:=HGN.out;omega)))
 refine hK5 _ _ ?_
 clear hg2 hm2 hm1 hg1 hK5 K5 hg hsl hkl hbl HB
 obtain ⟨ts,ds⟩:=a2
 obtain ⟨hsz,hds,hs2,hs3,hs4,hs5,hs6,hs7,-⟩:=hF
 dsimp only at hsz hds hs2 hs3 hs4 hs5 hs6 hs7
 subst hds
 obtain ⟨c,rfl,hc⟩:=lit259 ts hsz
 rw [hc] at hs2
 rw [hc] at hs3
 rw [hc] at hs4
 rw [hc] at hs5
 rw [hc] at hs6
 rw [hc] at hs7
 simp only [hs2,hs3,hs4,hs5,hs6,hs7]
 clear hc hsz hs2 hs3 hs4 hs5 hs6 hs7
 go_upto_block 4 with fail
 rename_i K5 hK5
 refine wp_only (rwords_hi b g v2 (.pointer (some ⟨sb,0,none⟩)) (.pointer (some ⟨kb,0,none⟩)) (.slice (some ⟨bb,bo,none⟩) bn bc) (.int .i64 (at':Int)) _ w2 HG2.out ⟨rfl,rfl,rfl,rfl,rfl,rfl,rfl,rfl,rfl,trivial⟩) ?_
 rintro a3 w3 ⟨hF,hg3,hm3⟩
 have HG3:=zh hg3
 have HM3:=zh (HM2.out.then hm3 (S:=No) (fun i hi e=>absurd hi (by have:=HGN.out;omega)))
 have HS3:=zh (HM3.out.keep HS.out (fun f=>f))
 have HK3:=zh (HM3.out.keep HK.out (fun f=>f))
 refine hK5 _ _ ?_
 clear hg3 hm3 hK5 K5 HG2 HM2
 obtain ⟨ts,ds⟩:=a3
 obtain ⟨hsz,hds,hs2,hs3,hs4,hs5,hs6,hs7,-⟩:=hF
 dsimp only at hsz hds hs2 hs3 hs4 hs5 hs6 hs7
 subst hds
 obtain ⟨c,rfl,hc⟩:=lit259 ts hsz
 rw [hc] at hs2
 rw [hc] at hs3
 rw [hc] at hs4
 rw [hc] at hs5
 rw [hc] at hs6
 rw [hc] at hs7
 simp only [hs2,hs3,hs4,hs5,hs6,hs7]
 clear hc hsz hs2 hs3 hs4 hs5 hs6 hs7
 obtain ⟨z0,z1,z2,z3,z4,z5,z6,z7,rfl⟩:=len8 hh
 have c0:=cell_ofA (i:=0) HS3.out (v:=.int .u32 z0) rfl
 have c1:=cell_ofA (i:=1) HS3.out (v:=.int .u32 z1) rfl
 have c2:=cell_ofA (i:=2) HS3.out (v:=.int .u32 z2) rfl
 have c3:=cell_ofA (i:=3) HS3.out (v:=.int .u32 z3) rfl
 have c4:=cell_ofA (i:=4) HS3.out (v:=.int .u32 z4) rfl
 have c5:=cell_ofA (i:=5) HS3.out (v:=.int .u32 z5) rfl
 have c6:=cell_ofA (i:=6) HS3.out (v:=.int .u32 z6) rfl
 have c7:=cell_ofA (i:=7) HS3.out (v:=.int .u32 z7) rfl
 clear hh
 go_upto_region 17 with fail
 go_quiet (fail)
 generalize hw4:World.drewN w3 _=w4
 have hm4:Mod No w3 w4:=by rw [<- hw4];exact (Mod.refl No w3).drewN _
 have HM4:=zh (HM3.out.trans hm4)
 have HS4:=zh (hm4.keep HS3.out (fun f=>f))
 have HK4:=zh (hm4.keep HK3.out (fun f=>f))
 have HG4:=zh (hm4.keep HG3.out (fun f=>f))
 clear hw4 hm4 HS3 HK3 HG3 HM3 c0 c1 c2 c3 c4 c5 c6 c7
 go_upto_block 6 with fail
 rename_i K5 hK5
 refine wp_only (rrounds_any kb g v2 (.pointer (some ⟨sb,0,none⟩)) (.slice (some ⟨bb,bo,none⟩) bn bc) (.int .i64 (at':Int)) z0 z1 z2 z3 z4 z5 z6 z7 k0 (wordsF b 64) _ w4 rfl (wordsF_length b 64) HK4.out HG4.out ⟨rfl,rfl,rfl,rfl,rfl,rfl,rfl,rfl,rfl,rfl,rfl,rfl,rfl,rfl,rfl,rfl,rfl,trivial⟩) ?_
 rintro a5 w5 ⟨⟨y0,y1,y2,y3,y4,y5,y6,y7,hfo,hF⟩,hm5⟩
 have HM5:=zh (HM4.out.trans hm5)
 have HS5:=zh (hm5.keep HS4.out (fun f=>f))
 have HFO:=zh (show blockF k0 b [z0,z1,z2,z3,z4,z5,z6,z7]=[((z0+y0) % 4294967296),((z1+y1) % 4294967296),((z2+y2) % 4294967296),((z3+y3) % 4294967296),((z4+y4) % 4294967296),((z5+y5) % 4294967296),((z6+y6) % 4294967296),((z7+y7) % 4294967296)] by
  unfold blockF
  rw [hfo]
  simp only [List.zipWith_cons_cons,List.zipWith_nil_left,wd,IntKind.wrap_u32])
 refine hK5 _ _ ?_
 clear hfo hm5 hK5 K5 HS4 HK4 HG4 HM4
 obtain ⟨ts,ds⟩:=a5
 obtain ⟨hsz,hds,hs2,hs3,hs4,hs5,hs6,hs12,hs13,hs14,hs15,hs16,hs17,hs18,hs19,-⟩:=hF
 dsimp only at hsz hds hs2 hs3 hs4 hs5 hs6 hs12 hs13 hs14 hs15 hs16 hs17 hs18 hs19
 subst hds
 obtain ⟨c,rfl,hc⟩:=lit259 ts hsz
 rw [hc] at hs2
 rw [hc] at hs3
 rw [hc] at hs4
 rw [hc] at hs5
 rw [hc] at hs6
 rw [hc] at hs12
 rw [hc] at hs13
 rw [hc] at hs14
 rw [hc] at hs15
 rw [hc] at hs16
 rw [hc] at hs17
 rw [hc] at hs18
 rw [hc] at hs19
 simp only [hs2,hs3,hs4,hs5,hs6,hs12,hs13,hs14,hs15,hs16,hs17,hs18,hs19]
 clear hc hsz hs2 hs3 hs4 hs5 hs6 hs12 hs13 hs14 hs15 hs16 hs17 hs18 hs19
 have c0:=cell_ofA (i:=0) HS5.out (v:=.int .u32 z0) rfl
 have f0:=frozen_of 0 HS5.out
 have c1:=cell_ofA (i:=1) HS5.out (v:=.int .u32 z1) rfl
 have f1:=frozen_of 1 HS5.out
 have c2:=cell_ofA (i:=2) HS5.out (v:=.int .u32 z2) rfl
 have f2:=frozen_of 2 HS5.out
 have c3:=cell_ofA (i:=3) HS5.out (v:=.int .u32 z3) rfl
 have f3:=frozen_of 3 HS5.out
 go_upto_region 25 with fail
 obtain ⟨w6,hw6⟩:∃ y,y=((((w5.setCell ⟨sb,0,none⟩ (.int .u32 ((z0+y0) % 4294967296))).setCell ⟨sb,1,none⟩ (.int .u32 ((z1+y1) % 4294967296))).setCell ⟨sb,2,none⟩ (.int .u32 ((z2+y2) % 4294967296))).setCell ⟨sb,3,none⟩ (.int .u32 ((z3+y3) % 4294967296))):=⟨_,rfl⟩
 have HS6:=zh (show w6.heap[sb]? = some (.cells #[.int .u32 ((z0+y0) % 4294967296),.int .u32 ((z1+y1) % 4294967296),.int .u32 ((z2+y2) % 4294967296),.int .u32 ((z3+y3) % 4294967296),.int .u32 z4,.int .u32 z5,.int .u32 z6,.int .u32 z7] 147 (0,0)) by rw [hw6,heap_setCell (heap_setCell (heap_setCell (heap_setCell HS5.out _) _) _) _];rfl)
 have HM6:=zh (show Mod (fun p=>p=sb) w w6 by rw [hw6];exact (((((HM5.out.weaken fun _ _ f=>f.elim:Mod (fun p=>p=sb) w w5).setCell (fun _=>rfl) _).setCell (fun _=>rfl) _).setCell (fun _=>rfl) _).setCell (fun _=>rfl) _))
 rw [<- hw6]
 clear hw6 HM5 HS5 c0 c1 c2 c3 f0 f1 f2 f3
 have c4:=cell_ofA (i:=4) HS6.out (v:=.int .u32 z4) rfl
 have f4:=frozen_of 4 HS6.out
 have c5:=cell_ofA (i:=5) HS6.out (v:=.int .u32 z5) rfl
 have f5:=frozen_of 5 HS6.out
 have c6:=cell_ofA (i:=6) HS6.out (v:=.int .u32 z6) rfl
 have f6:=frozen_of 6 HS6.out
 have c7:=cell_ofA (i:=7) HS6.out (v:=.int .u32 z7) rfl
 have f7:=frozen_of 7 HS6.out
 go_wp2_with fail
 exact Met.intro (HJ.out _ _ ⟨⟨rfl,rfl,rfl,rfl,rfl,rfl,rfl,trivial⟩,by rw [HFO.out,heap_setCell (heap_setCell (heap_setCell (heap_setCell HS6.out _) _) _) _];rfl,(((HM6.out.setCell (fun _=>rfl) _).setCell (fun _=>rfl) _).setCell (fun _=>rfl) _).setCell (fun _=>rfl) _⟩)
def LpBk (w0:World) (b:Nat->Int) (sb kb bb bo n bc:Nat) (v2:Value) (k:Nat) (a:Act) (w:World):Prop :=
 ∃ i at',i+k=n/\at'=64*i/\Mod (fun p=>p=sb) w0 w/\w.heap[sb]? = some (.cells (c8 (runF k0 i b h0)) 147 (0,0)) ∧
  Fr 259 [(2,v2),(3,.pointer (some ⟨sb,0,none⟩)),(4,.pointer (some ⟨kb,0,none⟩)),(5,.slice (some ⟨bb,bo,none⟩) (64*n:Nat) bc),(6,.int .i64 (at':Int))] a
set_option maxRecDepth 100000 in
set_option maxHeartbeats 4000000 in
theorem rblocks_any (b:Nat->Int) (sb kb bb bo n bc:Nat) (v2:Value) (f:Act) (w:World) (hn:n<=4398046511104) (hbs:bb ≠ sb) (hks:kb ≠ sb)
  (hs:w.heap[sb]? = some (.cells (c8 h0) 147 (0,0))) (hk:w.heap[kb]? = some (.cells (c8 k0) 148 (0,0)))
  (hb:∀ k,k < 64*n->w.cell? ⟨bb,bo+k,none⟩=some (.int .u8 (b k)))
  (hF:Fr 259 [(2,v2),(3,.pointer (some ⟨sb,0,none⟩)),(4,.pointer (some ⟨kb,0,none⟩)),(5,.slice (some ⟨bb,bo,none⟩) (64*n:Nat) bc),(6,.int .i64 0)] f) :
  Code.wp prog blkW0 (Exit.then (fun a' w'=>Fr 259 [(2,v2),(3,.pointer (some ⟨sb,0,none⟩))] a'/\w'.heap[sb]? = some (.cells (c8 (runF k0 n b h0)) 147 (0,0))/\Mod (fun p=>p=sb) w w') Nope) f w:=by
 refine wp_part fun J K' hJ hK=>?_
 have H0:=zh (show LpBk w b sb kb bb bo n bc v2 n f w from ⟨0,0,by omega,rfl,Mod.refl _ w,hs,hF⟩)
 have HJ:=zh hJ
 have HB:=zh hb
 have HKB:=zh hk
 obtain ⟨w0,hw0⟩:∃ w0,w0=w:=⟨_,rfl⟩
 rw [<- hw0] at HJ H0 HB HKB
 clear hF hJ hs hk hb
 conv=>arg 2;whnf
 go_step
 refine wp_loop_ghost_k (LpBk w0 b sb kb bb bo n bc v2) n (by rw [hw0] at H0 ⊢;exact H0.out) ?_
 clear H0 hw0 f w
 intro k f w hI J2 K2 hJ2 hK2
 have HJ2:=zh hJ2
 obtain ⟨i,at',hik,hat,hmod,hs,hF⟩:=hI
 have HS:=zh hs
 have HM:=zh hmod
 obtain ⟨bn,hbn⟩:∃ bn,bn=64*n:=⟨_,rfl⟩
 rw [<- hbn] at hF
 have HBN:=zh hbn
 have HAT:=zh hat
 clear hJ2 hs hmod hbn hat
 obtain ⟨ts,ds⟩:=f
 obtain ⟨hsz,hds,hs2,hs3,hs4,hs5,hs6,-⟩:=hF
 dsimp only at hsz hds hs2 hs3 hs4 hs5 hs6
 subst hds
 obtain ⟨c,rfl,hc⟩:=lit259 ts hsz
 rw [hc] at hs2
 rw [hc] at hs3
 rw [hc] at hs4
 rw [hc] at hs5
 rw [hc] at hs6
 simp only [hs2,hs3,hs4,hs5,hs6]
 clear hc hsz hs2 hs3 hs4 hs5 hs6
 have hi0:(0:Int)<=(at':Int):=Int.natCast_nonneg _
 by_cases hi:i < n
 ·have hlt:(at':Int) < (bn:Int):=by have:=HBN.out;have:=HAT.out;omega
  have hle:at'+64<=bn:=by have:=HBN.out;have:=HAT.out;omega
  have hbig:bn<=281474976710656:=by have:=HBN.out;omega
  have HLE:=zh (And.intro hle hbig)
  clear hle hbig
  go_upto_block 1 with fail
  rename_i K5 hK5
  refine wp_only (rblock_any (fun k=>b (64*i+k)) sb kb bb bo bn bc at' v2 (runF k0 i b h0) _ w (runF_length _ _ _ _ rfl) HLE.out.1 HLE.out.2 HS.out (HM.out.keep HKB.out hks) (fun k hk=>by rw [HAT.out];exact HM.out.cell (HB.out _ (by omega)) hbs) ⟨rfl,rfl,rfl,rfl,rfl,rfl,rfl,trivial⟩) ?_
  rintro a2 w2 ⟨hF,hs2,hm2⟩
  rw [<- runF_last i b h0] at hs2
  have HS2:=zh hs2
  have HM2:=zh (HM.out.trans hm2)
  clear hs2 hm2 HS
  refine hK5 _ _ ?_
  obtain ⟨ts,ds⟩:=a2
  obtain ⟨hsz,hds,hs2,hs3,hs4,hs5,hs6,-⟩:=hF
  dsimp only at hsz hds hs2 hs3 hs4 hs5 hs6
  subst hds
  obtain ⟨c,rfl,hc⟩:=lit259 ts hsz
  rw [hc] at hs2
  rw [hc] at hs3
  rw [hc] at hs4
  rw [hc] at hs5
  rw [hc] at hs6
  simp only [hs2,hs3,hs4,hs5,hs6]
  clear hc hsz hs2 hs3 hs4 hs5 hs6
  clear hK5 K5
  obtain ⟨at2,hat2⟩:∃ at2,at2=at'+64:=⟨_,rfl⟩
  have EA:=zh (show IntKind.i64.wrap ((at':Int)+64)=(at2:Int) by rw [IntKind.wrap_i64];have:=HLE.out;omega)
  have HA2:=zh (show at2=64*(i+1) by rw [hat2,HAT.out];omega)
  have eA:(at':Int)+64=(at2:Int):=by omega
  have bA:(at2:Int)<=281474976710720:=by have:=HLE.out;omega
  have bB:(0:Int)<=(at2:Int):=Int.natCast_nonneg _
  clear hat2
  go_wp2_with fail
  exact Handed.intro (k - 1) (by omega) (HJ2.out _ _ _ ⟨i+1,at2,by omega,HA2.out,HM2.out,HS2.out,rfl,rfl,rfl,rfl,rfl,by rw [<- HBN.out];rfl,by rfl,trivial⟩)
 ·have hlt:¬ (at':Int) < (bn:Int):=by have:=HBN.out;have:=HAT.out;omega
  obtain rfl:i=n:=by omega
  go_wp2_with fail
  exact Met.intro (HJ.out _ _ ⟨⟨rfl,rfl,rfl,rfl,trivial⟩,HS.out,HM.out⟩)
end Go.Proofs.YtgiigemfbebcgaaGreatDoor
