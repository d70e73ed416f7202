/-
  Layers 0 to 14: helps of the laws of indexes. No statement is proved here; no condition.
-/
import Derived.Test.YtmppeipgjcjdkaaGreatDoorW30
import Derived.Test.YtmppeipgjcjdkaaGreatDoorW06
import Derived.Test.YtmppeipgjcjdkaaGreatDoorW05
import Derived.Test.YtmppeipgjcjdkaaGreatDoorW04
namespace Go.Proofs.YtmppeipgjcjdkaaGreatDoor
open _root_.Go.Proofs.Tryz
open Go.RowKit Go.Maps
set_option maxRecDepth 100000 in
set_option maxHeartbeats 8000000 in
theorem stbytes_any (ys:List FlX) (v:Value) (w:World) (hv:SvX w No v ys.length (ys.flatMap FlX.cells)) (hy:∀ y ∈ ys,FlIn w y) (hl:ys.length<=240) (hb:∀ y ∈ ys,y.f.path.length<=200/\y.f.b.length<=500) :
  Calls prog 28 #[v] w fun e w'=>e=.returned (strV (treeB (ys.map FlX.f)))/\Mod No w w':=by
 refine calls_hide fun R hR=>?_
 have HV:=zh hv
 have HY:=zh hy
 have HB:=zh hb
 obtain ⟨va,vc,rfl⟩:=hv.1
 have HTB:=zh (show treeB (ys.map FlX.f)=cnB ys.length++((ys.take ys.length).map FlX.f).flatMap fileB by rw [List.take_length];unfold treeB;rw [List.length_map])
 have HLEN:=zh (show ∀ k,(cnB ys.length++((ys.take k).map FlX.f).flatMap fileB).length<=200000 from fun k=>by
  have h1:=numB_bound ys.length (by omega)
  have h2:=files_len (t:=(ys.take k).map FlX.f) (fun g hg=>by
   obtain ⟨y,hy,rfl⟩:=List.mem_map.1 hg
   exact hb y (List.mem_of_mem_take hy))
  rw [List.length_map,List.length_take] at h2
  have h3:721*min k ys.length<=721*240:=Nat.mul_le_mul_left _ (by omega)
  rw [List.length_append]
  omega)
 obtain ⟨base,hbase⟩:∃ b,b=w.heap.size:=⟨_,rfl⟩
 have HBASE:=zh hbase
 have hlI:(ys.length:Int)<=240:=by omega
 clear hv hy hb hbase
 go_enter func28,ntmps28
 go_wp2_with fail
 with_reducible refine (newWriter_any w).mono ?_
 rintro e w1 ⟨rfl,hwr,hm1⟩
 rw [<- HBASE.out] at hwr ⊢
 have m2:Mod No w1 (w1.alloc (.cells #[.int .u64 (ys.length:Int)] 130)):=(Mod.refl No w1).alloc _
 have HN:=zh (wnum_any (a:=⟨w1.heap.size,0,none⟩) (c:=1) (n:=ys.length) (hwr.stay m2) (by decide) (by rw [HBASE.out];exact Nat.le_trans hm1.size m2.size) (cell_of (i:=0) (xs:=[.int .u64 (ys.length:Int)]) (heap_alloc_new w1 _) rfl) rfl (by omega))
 have HM1:=zh (hm1.trans m2)
 clear hwr hm1 m2
 go_wp2_with fail
 with_reducible refine HN.out.mono ?_
 rintro e w3 ⟨v3,rfl,hw3,hm3⟩
 have HW3:=zh (show WrAt w3 base base v3 (cnB ys.length++((ys.take 0).map FlX.f).flatMap fileB) by simpa using hw3)
 have HM3:=zh (HM1.out.then hm3 (fun i hi e=>by have e:base<=i:=e;have:=HBASE.out;omega))
 clear hw3 hm3 HN HM1
 go_wp2_with fail
 go_loopw [15] (fun q15 wr=>∃ (k:Nat) (v':Value),k<=ys.length/\q15=.int .i64 (k:Int)/\WrAt wr base base v' (cnB ys.length++((ys.take k).map FlX.f).flatMap fileB)/\Mod No w wr) (fun q15 _=>ys.length - (intOf q15).toNat)
 case atStart=>exact ⟨0,v3,Nat.zero_le _,rfl,HW3.out,HM3.out⟩
 case round =>
  obtain ⟨k,v',hk,rfl,hw,hm⟩:=hrel
  have hk0:(0:Int)<=(k:Int):=Int.natCast_nonneg _
  have HM:=zh hm
  have HW:=zh hw
  clear hm hw HW3 HM3
  by_cases hlt:k < ys.length
  ·have hk1:(k:Int) < (ys.length:Int):=by omega
   obtain ⟨b,o,c,hvs,_⟩:=HV.out.shape (by omega)
   cases hvs
   have HVr:=zh (HV.out.kn HM.out)
   obtain ⟨c0,c1,c2⟩:=fls_cells HVr.out hlt
   have HXK:=zh ((HY.out _ (List.getElem_mem hlt)).no HM.out)
   have hbk:=HB.out _ (List.getElem_mem hlt)
   have HLK:=zh (HLEN.out k)
   have HTK:=zh (show cnB ys.length++((ys.take (k+1)).map FlX.f).flatMap fileB=(cnB ys.length++((ys.take k).map FlX.f).flatMap fileB)++[ys[k].f.path,ys[k].f.b].flatMap textB++boolB ys[k].f.dir by
    rw [List.take_succ_eq_append_getElem hlt,List.map_append,List.flatMap_append]
    simp [fileB])
   generalize ys[k]=x at *
   obtain ⟨⟨pt,dr,bs⟩,bv0⟩:=x
   dsimp only at c0 c1 c2 hbk HTK
   obtain ⟨⟨ba,bc,hbe⟩,-⟩:=HXK.out
   dsimp only at hbe
   subst hbe
   generalize cnB ys.length++((ys.take k).map FlX.f).flatMap fileB=L1 at *
   obtain ⟨w3,hw3⟩:∃ w3,w3=wr.alloc (.cells #[strV pt,.bool dr,.slice ba bs.length bc] 51):=⟨_,rfl⟩
   have m3:Mod No wr w3:=by rw [hw3];exact (Mod.refl No wr).alloc _
   have hf3:w3.heap[wr.heap.size]? = some (.cells #[strV pt,.bool dr,.slice ba bs.length bc] 51 (0,0)):=by rw [hw3];exact heap_alloc_new wr _
   have p0:w3.cell? ⟨wr.heap.size,0,none⟩=some (strV pt):=cell_ofA hf3 (i:=0) rfl
   have p2:w3.cell? ⟨wr.heap.size,2,none⟩=some (.slice ba bs.length bc):=cell_ofA hf3 (i:=2) rfl
   have hcv:(convert 41 9 (.slice ba bs.length bc)).run prog w3=.ok (strV bs) w3:=string_sv (show SvX w3 No (.slice ba bs.length bc) bs.length (bv bs) from HXK.out.kn m3) underlying41 underlying5 underlying9
   have m4:Mod No w3 (w3.alloc (.cells #[strV pt,strV bs] 9)):=(Mod.refl No w3).alloc _
   have HB3:=zh (show base<=wr.heap.size from by rw [HBASE.out];exact HM.out.size)
   have HT:=zh (show Calls prog 78 #[.pointer (some ⟨base,0,none⟩),.slice (some ⟨w3.heap.size,0,none⟩) 2 2] (w3.alloc (.cells #[strV pt,strV bs] 9)) fun e w'=>∃ v,e=.returned (.tuple #[])/\WrAt w' base base v (L1++[pt,bs].flatMap textB)/\Mod (Wm base base (w3.alloc (.cells #[strV pt,strV bs] 9))) (w3.alloc (.cells #[strV pt,strV bs] 9)) w' from
    wtexts_any (HW.out.stay (m3.trans m4)) (Nat.le_trans HB3.out (m3.trans m4).size) [pt,bs] ⟨_,_,heap_alloc_new w3 _⟩ (fun i hi=>by
     match i,hi with
     | 0,_=>exact cell_ofA (i:=0) (heap_alloc_new w3 _) rfl
     | 1,_=>exact cell_ofA (i:=1) (heap_alloc_new w3 _) rfl
     | i+2,h=>exact absurd h (by simp)) (fun s hs=>by simp at hs;rcases hs with rfl | rfl <;> omega) (by simp) (by have:=HLK.out;omega))
   have HM4:=zh (m3.trans m4)
   have HF4:=zh (m4.keep hf3 (fun f=>f))
   have HLT:=zh (show ([pt,bs].flatMap textB).length<=2000 from by
    have h1:=numB_bound pt.length (by omega)
    have h2:=numB_bound bs.length (by omega)
    simp only [List.flatMap_cons,List.flatMap_nil,List.append_nil,List.length_append,textB]
    omega)
   have HW3:=zh hw3
   have HFT:=zh (show wr.heap.size < w3.heap.size from by rw [hw3];simp)
   unfold strV at *
   generalize (⟨pt.toArray⟩:ByteArray)=PT at *
   generalize (⟨bs.toArray⟩:ByteArray)=BS at *
   clear hw3 hf3 m3 m4
   go_upto_region 6 with fail
   rw [<- HW3.out]
   clear c0 c1 c2
   go_wp2_with fail
   with_reducible refine HT.out.mono ?_
   rintro e w5 ⟨v5,rfl,hw5,hm5⟩
   have hf5:=hm5.keep HF4.out (fun e=>by
    rcases e with e | ⟨-,cur,fz,e⟩
    ·have h1:=HW.out.obj
     have h2:=HF4.out
     rw [e] at h2
     have h3:=HM4.out.keep h1 (fun f=>f)
     rw [h2] at h3
     cases h3
    ·rw [HF4.out] at e;cases e)
   have q1:w5.cell? ⟨wr.heap.size,1,none⟩=some (.bool dr):=cell_ofA hf5 (i:=1) rfl
   have m6:Mod No w5 (w5.alloc (.cells #[.bool dr] 4)):=(Mod.refl No w5).alloc _
   have HB5:=zh (show base<=w5.heap.size from Nat.le_trans HB3.out (Nat.le_trans HM4.out.size hm5.size))
   have HBL:=zh (wbool_any (c:=1) (hw5.stay m6) (by rw [List.length_append];have:=HLK.out;have:=HLT.out;omega) (Nat.le_trans HB5.out m6.size) (cell_ofA (i:=0) (heap_alloc_new w5 _) rfl))
   have HM6:=zh (show Mod No w (w5.alloc (.cells #[.bool dr] 4)) from ((HM.out.trans HM4.out).then (Wm.ofFrom hm5 (Nat.le_refl _)) (fun i hi e=>by have e:base<=i:=e;have:=HBASE.out;omega)).trans m6)
   clear hw5 hm5 hf5 m6 p0 p2 hcv HT
   go_wp2_with fail
   with_reducible refine HBL.out.mono ?_
   rintro e w7 ⟨v7,rfl,hw7,hm7⟩
   have HW7:=zh hw7
   have HM7:=zh (HM6.out.then hm7 (fun i hi e=>by have e:base<=i:=e;have:=HBASE.out;omega))
   clear hw7 hm7 HBL q1
   go_wp2_with fail
   exact ⟨⟨k+1,v7,by omega,by simp,by rw [HTK.out];exact HW7.out,HM7.out⟩,by show ys.length - ((k:Int)+1).toNat < ys.length - (k:Int).toNat;omega⟩
  ·obtain rfl:k=ys.length:=by omega
   have hk1:¬ ((ys.length:Int) < (ys.length:Int)):=by omega
   have HWB:=zh (wbytes_any HW.out (by have:=HLEN.out ys.length;omega))
   go_wp2_with fail
   with_reducible refine HWB.out.mono ?_
   rintro e w8 ⟨v8,rfl,ho,hm8⟩
   rw [<- HTB.out] at ho
   have HM8:=zh (HM.out.trans hm8)
   have hcv:(convert 41 9 v8).run prog w8=.ok (strV (treeB (ys.map FlX.f))) w8:=string_of (X:=No) (Sl.of_own ho (fun _ _ f=>f)) underlying41 underlying5 underlying9
   generalize strV (treeB (ys.map FlX.f))=z at *
   obtain ⟨oa,oc,rfl⟩:=own_len ho
   clear ho hm8 HWB
   go_wp2_with fail
   exact fin hR ⟨rfl,HM8.out⟩
set_option maxRecDepth 100000 in
set_option maxHeartbeats 8000000 in
theorem hfiles_any (xs ys:List FlX) (h:xs.map FlX.f=ys.map FlX.f) (v u:Value) (w:World) (hv:SvX w No v xs.length (xs.flatMap FlX.cells)) (hu:SvX w No u ys.length (ys.flatMap FlX.cells)) (hx:∀ x ∈ xs,FlIn w x) (hy:∀ y ∈ ys,FlIn w y) :
  Calls prog 36 #[v,u] w fun e w'=>e=.returned (.bool true)/\Mod No w w':=by
 refine calls_hide fun R hR=>?_
 have HV:=zh hv
 have HU:=zh hu
 have HX:=zh hx
 have HY:=zh hy
 have hlen:=hv.lenle
 have HE:=zh h
 have hn:ys.length=xs.length:=by have:=congrArg List.length h;simpa using this.symm
 obtain ⟨va,vc,rfl⟩:=hv.1
 obtain ⟨ua,uc,rfl⟩:=hu.1
 have HN:=zh hn
 rw [hn]
 clear hv hu hx hy h hn
 go_enter func36,ntmps36
 go_wp2_with fail
 go_loopw [5] (fun q wr=>∃ k:Nat,k<=xs.length/\q=.int .i64 (k:Int)/\Mod No w wr) (fun q _=>xs.length - (intOf q).toNat)
 case atStart=>exact ⟨0,Nat.zero_le _,rfl,Mod.refl _ _⟩
 case round =>
  obtain ⟨k,hk,rfl,hm⟩:=hrel
  have hk0:(0:Int)<=(k:Int):=Int.natCast_nonneg _
  have HM:=zh hm
  clear hm
  by_cases hlt:k < xs.length
  ·have hk1:(k:Int) < (xs.length:Int):=by omega
   have hlt2:k < ys.length:=by rw [HN.out];exact hlt
   obtain ⟨b,o,c,hvs,_⟩:=HV.out.shape (by omega)
   cases hvs
   obtain ⟨b2,o2,c2',hus,_⟩:=HU.out.shape (by omega)
   rw [HN.out] at hus
   cases hus
   obtain ⟨wD,hwD⟩:∃ y,y=wr.drew:=⟨_,rfl⟩
   have hmD:Mod No wr wD:=by rw [hwD];exact (Mod.refl No wr).drew
   have HMD:=zh (HM.out.trans hmD)
   have hv1:=HV.out.kn HMD.out
   have hu1:=HU.out.kn HMD.out
   obtain ⟨c0,c1,c2⟩:=fls_cells hv1 hlt
   obtain ⟨d0,d1,d2⟩:=fls_cells hu1 hlt2
   have hfk:ys[k].f=xs[k].f:=by
    have h1:(ys.map FlX.f)[k]? = (xs.map FlX.f)[k]?:=by rw [HE.out]
    rw [List.getElem?_map,List.getElem?_map,List.getElem?_eq_getElem hlt,List.getElem?_eq_getElem hlt2] at h1
    exact Option.some.inj h1
   have hxk:=(HX.out _ (List.getElem_mem hlt)).no HMD.out
   have hyk:=(HY.out _ (List.getElem_mem hlt2)).no HMD.out
   rw [hfk] at d0 d1
   have CX:=zh (string_sv (src:=41) (dst:=9) (show SvX wD No xs[k].v xs[k].f.b.length (bv xs[k].f.b) from hxk) underlying41 underlying5 underlying9)
   have CY:=zh (string_sv (src:=41) (dst:=9) (show SvX wD No ys[k].v xs[k].f.b.length (bv xs[k].f.b) by rw [<- hfk];exact hyk) underlying41 underlying5 underlying9)
   obtain ⟨xa,xc,hxe⟩:=hxk.len
   obtain ⟨ya,yc,hye⟩:=hyk.len
   rw [hxe] at c2 CX
   rw [hfk] at hye
   rw [hye] at d2 CY
   have C0:=zh c0
   have C1:=zh c1
   have C2:=zh c2
   have D0:=zh d0
   have D1:=zh d1
   have D2:=zh d2
   clear hv1 hu1 hxk hyk hxe hye hfk c0 c1 c2 d0 d1 d2
   generalize xs[k].f=f at *
   obtain ⟨p,d,bs⟩:=f
   dsimp only at C0 C1 C2 D0 D1 D2 CX CY
   generalize bs.length=nb at *
   unfold strV at *
   generalize (⟨p.toArray⟩:ByteArray)=P at *
   generalize (⟨bs.toArray⟩:ByteArray)=B at *
   have HWD:=zh hwD
   have hS0:wD=wD:=rfl
   clear hwD hmD
   go_upto_region 6 with fail
   refine wp_region_T (fun w'=>w'=wD) 99 (by kernel_rfl) ?_
   rw [<- HWD.out]
   refine yT 0 (some 17) ?_ hS0 ?_ ?_
   rotate_left
   ·(intro w' hSw;subst hSw;go_simp;try with_reducible rfl)
   simp only [Act.put,yB,yC,yD]
   refine yT 1 (some 18) ?_ hS0 ?_ ?_
   rotate_left
   ·(intro w' hSw;subst hSw;go_simp;try with_reducible rfl)
   simp only [Act.put,yB,yC,yD]
   refine yT 2 (some 19) ?_ hS0 ?_ ?_
   rotate_left
   ·(intro w' hSw;subst hSw;go_simp;try with_reducible rfl)
   simp only [Act.put,yB,yC,yD]
   refine yT 3 (some 20) ?_ hS0 ?_ ?_
   rotate_left
   ·(intro w' hSw;subst hSw;go_simp;try with_reducible rfl)
   simp only [Act.put,yB,yC,yD]
   refine yT 4 (some 21) (.string P) hS0 ?_ ?_
   ·(intro w' hSw;subst hSw;have q0:=C0.out;go_simp;try with_reducible rfl)
   simp only [Act.put,yB,yC,yD]
   refine yT 5 (some 22) ?_ hS0 ?_ ?_
   rotate_left
   ·(intro w' hSw;subst hSw;go_simp;try with_reducible rfl)
   simp only [Act.put,yB,yC,yD]
   refine yT 6 (some 23) ?_ hS0 ?_ ?_
   rotate_left
   ·(intro w' hSw;subst hSw;go_simp;try with_reducible rfl)
   simp only [Act.put,yB,yC,yD]
   refine yT 7 (some 24) ?_ hS0 ?_ ?_
   rotate_left
   ·(intro w' hSw;subst hSw;go_simp;try with_reducible rfl)
   simp only [Act.put,yB,yC,yD]
   refine yT 8 (some 25) ?_ hS0 ?_ ?_
   rotate_left
   ·(intro w' hSw;subst hSw;go_simp;try with_reducible rfl)
   simp only [Act.put,yB,yC,yD]
   refine yT 9 (some 26) (.string P) hS0 ?_ ?_
   ·(intro w' hSw;subst hSw;have q0:=D0.out;go_simp;try with_reducible rfl)
   simp only [Act.put,yB,yC,yD]
   refine yT 10 (some 27) (.bool false) hS0 ?_ ?_
   ·(intro w' hSw;subst hSw;go_simp;try simp)
   simp only [Act.put,yB,yC,yD]
   refine yT 11 (some 28) ?_ hS0 ?_ ?_
   rotate_left
   ·(intro w' hSw;subst hSw;go_simp;try with_reducible rfl)
   simp only [Act.put,yB,yC,yD]
   refine yT 12 (some 29) ?_ hS0 ?_ ?_
   rotate_left
   ·(intro w' hSw;subst hSw;go_simp;try with_reducible rfl)
   simp only [Act.put,yB,yC,yD]
   refine yT 13 (some 30) ?_ hS0 ?_ ?_
   rotate_left
   ·(intro w' hSw;subst hSw;go_simp;try with_reducible rfl)
   simp only [Act.put,yB,yC,yD]
   refine yT 14 (some 31) ?_ hS0 ?_ ?_
   rotate_left
   ·(intro w' hSw;subst hSw;go_simp;try with_reducible rfl)
   simp only [Act.put,yB,yC,yD]
   refine yT 15 (some 32) ?_ hS0 ?_ ?_
   rotate_left
   ·(intro w' hSw;subst hSw;go_simp;try with_reducible rfl)
   simp only [Act.put,yB,yC,yD]
   refine yT 16 (some 33) (.bool d) hS0 ?_ ?_
   ·(intro w' hSw;subst hSw;have q0:=C1.out;go_simp;try with_reducible rfl)
   simp only [Act.put,yB,yC,yD]
   refine yT 17 (some 34) ?_ hS0 ?_ ?_
   rotate_left
   ·(intro w' hSw;subst hSw;go_simp;try with_reducible rfl)
   simp only [Act.put,yB,yC,yD]
   refine yT 18 (some 35) ?_ hS0 ?_ ?_
   rotate_left
   ·(intro w' hSw;subst hSw;go_simp;try with_reducible rfl)
   simp only [Act.put,yB,yC,yD]
   refine yT 19 (some 36) ?_ hS0 ?_ ?_
   rotate_left
   ·(intro w' hSw;subst hSw;go_simp;try with_reducible rfl)
   simp only [Act.put,yB,yC,yD]
   refine yT 20 (some 37) ?_ hS0 ?_ ?_
   rotate_left
   ·(intro w' hSw;subst hSw;go_simp;try with_reducible rfl)
   simp only [Act.put,yB,yC,yD]
   refine yT 21 (some 38) (.bool d) hS0 ?_ ?_
   ·(intro w' hSw;subst hSw;have q0:=D1.out;go_simp;try with_reducible rfl)
   simp only [Act.put,yB,yC,yD]
   refine yT 22 (some 39) (.bool false) hS0 ?_ ?_
   ·(intro w' hSw;subst hSw;go_simp;try simp)
   simp only [Act.put,yB,yC,yD]
   refine yT 23 (some 40) ?_ hS0 ?_ ?_
   rotate_left
   ·(intro w' hSw;subst hSw;go_simp;try with_reducible rfl)
   simp only [Act.put,yB,yC,yD]
   refine yT 24 (some 41) ?_ hS0 ?_ ?_
   rotate_left
   ·(intro w' hSw;subst hSw;go_simp;try with_reducible rfl)
   simp only [Act.put,yB,yC,yD]
   refine yT 25 (some 42) ?_ hS0 ?_ ?_
   rotate_left
   ·(intro w' hSw;subst hSw;go_simp;try with_reducible rfl)
   simp only [Act.put,yB,yC,yD]
   refine yT 26 (some 43) ?_ hS0 ?_ ?_
   rotate_left
   ·(intro w' hSw;subst hSw;go_simp;try with_reducible rfl)
   simp only [Act.put,yB,yC,yD]
   refine yT 27 (some 44) ?_ hS0 ?_ ?_
   rotate_left
   ·(intro w' hSw;subst hSw;go_simp;try with_reducible rfl)
   simp only [Act.put,yB,yC,yD]
   refine yT 28 (some 45) ?_ hS0 ?_ ?_
   rotate_left
   ·(intro w' hSw;subst hSw;go_simp;try with_reducible rfl)
   simp only [Act.put,yB,yC,yD]
   refine yT 29 (some 46) (.slice xa nb xc) hS0 ?_ ?_
   ·(intro w' hSw;subst hSw;have q0:=C2.out;go_simp;try with_reducible rfl)
   simp only [Act.put,yB,yC,yD]
   refine yT 30 (some 47) (.string B) hS0 ?_ ?_
   ·(intro w' hSw;subst hSw;have q0:=CX.out;go_simp;try with_reducible rfl)
   simp only [Act.put,yB,yC,yD]
   refine yT 31 (some 48) ?_ hS0 ?_ ?_
   rotate_left
   ·(intro w' hSw;subst hSw;go_simp;try with_reducible rfl)
   simp only [Act.put,yB,yC,yD]
   refine yT 32 (some 49) ?_ hS0 ?_ ?_
   rotate_left
   ·(intro w' hSw;subst hSw;go_simp;try with_reducible rfl)
   simp only [Act.put,yB,yC,yD]
   refine yT 33 (some 50) ?_ hS0 ?_ ?_
   rotate_left
   ·(intro w' hSw;subst hSw;go_simp;try with_reducible rfl)
   simp only [Act.put,yB,yC,yD]
   refine yT 34 (some 51) ?_ hS0 ?_ ?_
   rotate_left
   ·(intro w' hSw;subst hSw;go_simp;try with_reducible rfl)
   simp only [Act.put,yB,yC,yD]
   refine yT 35 (some 52) (.slice ya nb yc) hS0 ?_ ?_
   ·(intro w' hSw;subst hSw;have q0:=D2.out;go_simp;try with_reducible rfl)
   simp only [Act.put,yB,yC,yD]
   refine yT 36 (some 53) (.string B) hS0 ?_ ?_
   ·(intro w' hSw;subst hSw;have q0:=CY.out;go_simp;try with_reducible rfl)
   simp only [Act.put,yB,yC,yD]
   refine yT 37 (some 54) (.bool false) hS0 ?_ ?_
   ·(intro w' hSw;subst hSw;go_simp;try simp)
   simp only [Act.put,yB,yC,yD]
   refine yT 38 (some 55) ?_ hS0 ?_ ?_
   rotate_left
   ·(intro w' hSw;subst hSw;go_simp;try with_reducible rfl)
   simp only [Act.put]
   refine wpAnyT_done (by kernel_rfl) ?_ _
   go_wp2_with fail
   exact ⟨⟨k+1,by omega,by simp,HMD.out⟩,by show xs.length - ((k:Int)+1).toNat < xs.length - (k:Int).toNat;omega⟩
  ·have hk1:¬ (k:Int) < (xs.length:Int):=by omega
   go_wp2_with fail
   exact fin hR ⟨rfl,HM.out⟩
end Go.Proofs.YtmppeipgjcjdkaaGreatDoor
