/-
  Layers 0 to 14: helps of the laws of indexes. No statement is proved here; no condition.
-/
import Derived.Test.YtmppeipgjcjdkaaGreatDoorX16
import Derived.Test.YtmppeipgjcjdkaaGreatDoorX33
import Derived.Test.YtmppeipgjcjdkaaGreatDoorX03
import Derived.Test.YtmppeipgjcjdkaaGreatDoorX00
namespace Go.Proofs.YtmppeipgjcjdkaaGreatDoor
open _root_.Go.Proofs.Tryz
open Go.RowKit Go.Maps
set_option maxRecDepth 100000 in
set_option maxHeartbeats 8000000 in
theorem stbytes_any (ys:List FlX) (v:Value) (w:World) (hv:SvX w No v ys.length (ys.flatMap FlX.cells)) (hy:∀ y ∈ ys,FlIn w y) (hl:ys.length<=240) (hb:∀ y ∈ ys,y.f.path.length<=200/\y.f.b.length<=500) :
  Calls prog 28 #[v] w fun e w'=>e=.returned (strV (treeB (ys.map FlX.f)))/\Mod No w w':=by
 refine calls_hide fun R hR=>?_
 have HV:=zh hv
 have HY:=zh hy
 have HB:=zh hb
 obtain ⟨va,vc,rfl⟩:=hv.1
 have HTB:=zh (show treeB (ys.map FlX.f)=cnB ys.length++((ys.take ys.length).map FlX.f).flatMap fileB by rw [List.take_length];unfold treeB;rw [List.length_map])
 have HLEN:=zh (show ∀ k,(cnB ys.length++((ys.take k).map FlX.f).flatMap fileB).length<=200000 from fun k=>by
  have h1:=numB_bound ys.length (by omega)
  have h2:=files_len (t:=(ys.take k).map FlX.f) (fun g hg=>by
   obtain ⟨y,hy,rfl⟩:=List.mem_map.1 hg
   exact hb y (List.mem_of_mem_take hy))
  rw [List.length_map,List.length_take] at h2
  have h3:721*min k ys.length<=721*240:=Nat.mul_le_mul_left _ (by omega)
  rw [List.length_append]
  omega)
 obtain ⟨base,hbase⟩:∃ b,b=w.heap.size:=⟨_,rfl⟩
 have HBASE:=zh hbase
 have hlI:(ys.length:Int)<=240:=by omega
 clear hv hy hb hbase
 go_enter func28,ntmps28
 go_wp2_with fail
 with_reducible refine (newWriter_any w).mono ?_
 rintro e w1 ⟨rfl,hwr,hm1⟩
 rw [<- HBASE.out] at hwr ⊢
 have m2:Mod No w1 (w1.alloc (.cells #[.int .u64 (ys.length:Int)] 130)):=(Mod.refl No w1).alloc _
 have HN:=zh (wnum_any (a:=⟨w1.heap.size,0,none⟩) (c:=1) (n:=ys.length) (hwr.stay m2) (by decide) (by rw [HBASE.out];exact Nat.le_trans hm1.size m2.size) (cell_of (i:=0) (xs:=[.int .u64 (ys.length:Int)]) (heap_alloc_new w1 _) rfl) rfl (by omega))
 have HM1:=zh (hm1.trans m2)
 clear hwr hm1 m2
 go_wp2_with fail
 with_reducible refine HN.out.mono ?_
 rintro e w3 ⟨v3,rfl,hw3,hm3⟩
 have HW3:=zh (show WrAt w3 base base v3 (cnB ys.length++((ys.take 0).map FlX.f).flatMap fileB) by simpa using hw3)
 have HM3:=zh (HM1.out.then hm3 (fun i hi e=>by have e:base<=i:=e;have:=HBASE.out;omega))
 clear hw3 hm3 HN HM1
 go_wp2_with fail
 go_loopw [15] (fun q15 wr=>∃ (k:Nat) (v':Value),k<=ys.length/\q15=.int .i64 (k:Int)/\WrAt wr base base v' (cnB ys.length++((ys.take k).map FlX.f).flatMap fileB)/\Mod No w wr) (fun q15 _=>ys.length - (intOf q15).toNat)
 case atStart=>exact ⟨0,v3,Nat.zero_le _,rfl,HW3.out,HM3.out⟩
 case round =>
  obtain ⟨k,v',hk,rfl,hw,hm⟩:=hrel
  have hk0:(0:Int)<=(k:Int):=Int.natCast_nonneg _
  have HM:=zh hm
  have HW:=zh hw
  clear hm hw HW3 HM3
  by_cases hlt:k < ys.length
  ·have hk1:(k:Int) < (ys.length:Int):=by omega
   obtain ⟨b,o,c,hvs,_⟩:=HV.out.shape (by omega)
   cases hvs
   have HVr:=zh (HV.out.kn HM.out)
   obtain ⟨c0,c1,c2⟩:=fls_cells HVr.out hlt
   have HXK:=zh ((HY.out _ (List.getElem_mem hlt)).no HM.out)
   have hbk:=HB.out _ (List.getElem_mem hlt)
   have HLK:=zh (HLEN.out k)
   have HTK:=zh (show cnB ys.length++((ys.take (k+1)).map FlX.f).flatMap fileB=(cnB ys.length++((ys.take k).map FlX.f).flatMap fileB)++[ys[k].f.path,ys[k].f.b].flatMap textB++boolB ys[k].f.dir by
    rw [List.take_succ_eq_append_getElem hlt,List.map_append,List.flatMap_append]
    simp [fileB])
   generalize ys[k]=x at *
   obtain ⟨⟨pt,dr,bs⟩,bv0⟩:=x
   dsimp only at c0 c1 c2 hbk HTK
   obtain ⟨⟨ba,bc,hbe⟩,-⟩:=HXK.out
   dsimp only at hbe
   subst hbe
   generalize cnB ys.length++((ys.take k).map FlX.f).flatMap fileB=L1 at *
   obtain ⟨w3,hw3⟩:∃ w3,w3=wr.alloc (.cells #[strV pt,.bool dr,.slice ba bs.length bc] 51):=⟨_,rfl⟩
   have m3:Mod No wr w3:=by rw [hw3];exact (Mod.refl No wr).alloc _
   have hf3:w3.heap[wr.heap.size]? = some (.cells #[strV pt,.bool dr,.slice ba bs.length bc] 51 (0,0)):=by rw [hw3];exact heap_alloc_new wr _
   have p0:w3.cell? ⟨wr.heap.size,0,none⟩=some (strV pt):=cell_ofA hf3 (i:=0) rfl
   have p2:w3.cell? ⟨wr.heap.size,2,none⟩=some (.slice ba bs.length bc):=cell_ofA hf3 (i:=2) rfl
   have hcv:(convert 41 9 (.slice ba bs.length bc)).run prog w3=.ok (strV bs) w3:=string_sv (show SvX w3 No (.slice ba bs.length bc) bs.length (bv bs) from HXK.out.kn m3) underlying41 underlying5 underlying9
   have m4:Mod No w3 (w3.alloc (.cells #[strV pt,strV bs] 9)):=(Mod.refl No w3).alloc _
   have HB3:=zh (show base<=wr.heap.size from by rw [HBASE.out];exact HM.out.size)
   have HT:=zh (show Calls prog 78 #[.pointer (some ⟨base,0,none⟩),.slice (some ⟨w3.heap.size,0,none⟩) 2 2] (w3.alloc (.cells #[strV pt,strV bs] 9)) fun e w'=>∃ v,e=.returned (.tuple #[])/\WrAt w' base base v (L1++[pt,bs].flatMap textB)/\Mod (Wm base base (w3.alloc (.cells #[strV pt,strV bs] 9))) (w3.alloc (.cells #[strV pt,strV bs] 9)) w' from
    wtexts_any (HW.out.stay (m3.trans m4)) (Nat.le_trans HB3.out (m3.trans m4).size) [pt,bs] ⟨_,_,heap_alloc_new w3 _⟩ (fun i hi=>by
     match i,hi with
     | 0,_=>exact cell_ofA (i:=0) (heap_alloc_new w3 _) rfl
     | 1,_=>exact cell_ofA (i:=1) (heap_alloc_new w3 _) rfl
     | i+2,h=>exact absurd h (by simp)) (fun s hs=>by simp at hs;rcases hs with rfl | rfl <;> omega) (by simp) (by have:=HLK.out;omega))
   have HM4:=zh (m3.trans m4)
   have HF4:=zh (m4.keep hf3 (fun f=>f))
   have HLT:=zh (show ([pt,bs].flatMap textB).length<=2000 from by
    have h1:=numB_bound pt.length (by omega)
    have h2:=numB_bound bs.length (by omega)
    simp only [List.flatMap_cons,List.flatMap_nil,List.append_nil,List.length_append,textB]
    omega)
   have HW3:=zh hw3
   have HFT:=zh (show wr.heap.size < w3.heap.size from by rw [hw3];simp)
   unfold strV at *
   generalize (⟨pt.toArray⟩:ByteArray)=PT at *
   generalize (⟨bs.toArray⟩:ByteArray)=BS at *
   clear hw3 hf3 m3 m4
   go_upto_region 6 with fail
   rw [<- HW3.out]
   clear c0 c1 c2
   go_wp2_with fail
   with_reducible refine HT.out.mono ?_
   rintro e w5 ⟨v5,rfl,hw5,hm5⟩
   have hf5:=hm5.keep HF4.out (fun e=>by
    rcases e with e | ⟨-,cur,fz,e⟩
    ·have h1:=HW.out.obj
     have h2:=HF4.out
     rw [e] at h2
     have h3:=HM4.out.keep h1 (fun f=>f)
     rw [h2] at h3
     cases h3
    ·rw [HF4.out] at e;cases e)
   have q1:w5.cell? ⟨wr.heap.size,1,none⟩=some (.bool dr):=cell_ofA hf5 (i:=1) rfl
   have m6:Mod No w5 (w5.alloc (.cells #[.bool dr] 4)):=(Mod.refl No w5).alloc _
   have HB5:=zh (show base<=w5.heap.size from Nat.le_trans HB3.out (Nat.le_trans HM4.out.size hm5.size))
   have HBL:=zh (wbool_any (c:=1) (hw5.stay m6) (by rw [List.length_append];have:=HLK.out;have:=HLT.out;omega) (Nat.le_trans HB5.out m6.size) (cell_ofA (i:=0) (heap_alloc_new w5 _) rfl))
   have HM6:=zh (show Mod No w (w5.alloc (.cells #[.bool dr] 4)) from ((HM.out.trans HM4.out).then (Wm.ofFrom hm5 (Nat.le_refl _)) (fun i hi e=>by have e:base<=i:=e;have:=HBASE.out;omega)).trans m6)
   clear hw5 hm5 hf5 m6 p0 p2 hcv HT
   go_wp2_with fail
   with_reducible refine HBL.out.mono ?_
   rintro e w7 ⟨v7,rfl,hw7,hm7⟩
   have HW7:=zh hw7
   have HM7:=zh (HM6.out.then hm7 (fun i hi e=>by have e:base<=i:=e;have:=HBASE.out;omega))
   clear hw7 hm7 HBL q1
   go_wp2_with fail
   exact ⟨⟨k+1,v7,by omega,by simp,by rw [HTK.out];exact HW7.out,HM7.out⟩,by show ys.length - ((k:Int)+1).toNat < ys.length - (k:Int).toNat;omega⟩
  ·obtain rfl:k=ys.length:=by omega
   have hk1:¬ ((ys.length:Int) < (ys.length:Int)):=by omega
   have HWB:=zh (wbytes_any HW.out (by have:=HLEN.out ys.length;omega))
   go_wp2_with fail
   with_reducible refine HWB.out.mono ?_
   rintro e w8 ⟨v8,rfl,ho,hm8⟩
   rw [<- HTB.out] at ho
   have HM8:=zh (HM.out.trans hm8)
   have hcv:(convert 41 9 v8).run prog w8=.ok (strV (treeB (ys.map FlX.f))) w8:=string_of (X:=No) (Sl.of_own ho (fun _ _ f=>f)) underlying41 underlying5 underlying9
   generalize strV (treeB (ys.map FlX.f))=z at *
   obtain ⟨oa,oc,rfl⟩:=own_len ho
   clear ho hm8 HWB
   go_wp2_with fail
   exact fin hR ⟨rfl,HM8.out⟩
end Go.Proofs.YtmppeipgjcjdkaaGreatDoor
