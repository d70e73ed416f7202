/-
  Layers 0 to 14: helps of the laws of indexes. No statement is proved here; no condition.
-/
import Derived.Test.YtmppeipgjcjdkaaGreatDoorW01
import Derived.Test.YtmppeipgjcjdkaaGreatDoorW04
import Derived.Deep.OwnRows
namespace Go.Proofs.YtmppeipgjcjdkaaGreatDoor
open _root_.Go.Proofs.Tryz
open Go.RowKit Go.Maps
def NewInv (w0:World) (m:Nat) (wr:World) (k:Nat):Prop :=
 ∃ v xs,wr.heap[w0.heap.size+1]? = some (.cells #[v,.map (some w0.heap.size),.int .i64 (-1),.bool false] 83 (0,0))/\wr.ownsRow (w0.heap.size+2) 41 1 v k xs ∧
  Mp wr 3 w0.heap.size (.map [])/\(∀ j,j < k->∃ u,xs[j]? = some u/\Sl wr (fun q=>q < w0.heap.size) 5 u m (bv (List.replicate m 0)))/\Mod No w0 wr/\w0.heap.size+2<=wr.heap.size
theorem madeBytes (m:Nat):madeCells #[.int .u8 0] m=(bv (List.replicate m 0)).toArray:=by
 apply Array.toList_inj.1
 rw [toList_madeCells_one]
 simp [bv]
theorem NewInv.start (w:World) (m:Nat) :
  NewInv w m ((w.alloc (.map #[] 0)).alloc (.cells #[.slice none 0 0,.map (some w.heap.size),.int .i64 (-1),.bool false] 83)) 0:=by
 refine ⟨.slice none 0 0,[],?_,World.ownsRow_nil _ _ _ _,?_,fun j hj=>by omega,((Mod.refl No w).alloc _).alloc _,by simp⟩
 ·have:=heap_alloc_new (w.alloc (.map #[] 0)) (.cells #[.slice none 0 0,.map (some w.heap.size),.int .i64 (-1),.bool false] 83)
  simpa using this
 ·exact (Mp.made w _).keep (S:=No) ((Mod.refl No _).alloc _) (fun f=>f)
set_option maxRecDepth 100000 in
set_option maxHeartbeats 2000000 in
theorem new_any (n size:Int) (w:World) :
  Calls prog 9 #[.int .i64 n,.int .i64 size] w fun e w'=>∃ N m:Nat,e=.returned (.pointer (some ⟨w.heap.size+1,0,none⟩))/\(N:Int)=min (max n 1) 4096/\(m:Int)=min (max size 64) 4096/\NewInv w m w' N:=by
 have hmm:=@run_makeMap prog
 obtain ⟨N,hN⟩:∃ N:Nat,min (max n 1) 4096=(N:Int):=Int.eq_ofNat_of_zero_le (by omega)
 obtain ⟨m,hm⟩:∃ m:Nat,min (max size 64) 4096=(m:Int):=Int.eq_ofNat_of_zero_le (by omega)
 have hN1:N<=4096:=by omega
 have hm1:m<=4096:=by omega
 have HW:∀ w,Calls prog 25 #[.int .i64 n,.int .i64 1,.int .i64 4096] w fun e w'=>e=.returned (.int .i64 (N:Int))/\w=w':=fun w=>by rw [<- hN];exact within_any n 1 4096 w
 have HZ:∀ w,Calls prog 25 #[.int .i64 size,.int .i64 64,.int .i64 4096] w fun e w'=>e=.returned (.int .i64 (m:Int))/\w=w':=fun w=>by rw [<- hm];exact within_any size 64 4096 w
 have HWH:=zh HW
 have HZH:=zh HZ
 have HN:=zh hN
 have HM:=zh hm
 have hmk:=fun w=>run_make_row' (P:=prog) 41 5 (.int .u8 0) 1 underlying41 info_u8 rfl .i64 .i64 m (by omega) (by omega) w
 clear HW HZ hN hm
 obtain ⟨i0,hi,hz0,hz1,hz2⟩:=info_parts info_bs
 refine calls_hide fun R hR=>?_
 go_enter func9,ntmps9
 go_wp2_with (go_at_call 25;refine (HWH.out _).mono ?_;rintro e w' ⟨rfl,rfl⟩)
 go_loopw [12] (fun i wr=>∃ k:Nat,k<=N/\i=.int .i64 k/\NewInv w m wr k) (fun i _=>N - (intOf i).toNat)
 case atStart=>exact ⟨0,Nat.zero_le _,rfl,NewInv.start w m⟩
 case round =>
  obtain ⟨k,hk,rfl,hinv⟩:=hrel
  by_cases hlt:k < N
  ·obtain ⟨v,xs,hb,hown,hmp,hxs,hmod,hsz⟩:=hinv
   have c0:=cell_of (i:=0) hb rfl
   have f0:=frozen_of 0 hb
   have HB:=zh hb
   have HO:=zh hown
   have HMp:=zh hmp
   have HX:=zh hxs
   have HMod:=zh hmod
   clear hb hown hmp hxs hmod
   go_wp2_with fail
   have hS0:wr.drew.cell? ⟨w.heap.size+1,0,none⟩=some v:=c0
   have m1:Mod No wr (wr.alloc (.cells (madeCells #[.int .u8 0] m) 5)).drew:=((Mod.refl No wr).alloc _).drew
   have m2:Mod No wr ((wr.alloc (.cells (madeCells #[.int .u8 0] m) 5)).alloc (.cells #[.slice (some ⟨wr.heap.size,0,none⟩) m m] 41)).drew:=(((Mod.refl No wr).alloc _).alloc _).drew
   have hS1:=m1.cell c0 (fun f=>f)
   have hS2:=m2.cell c0 (fun f=>f)
   have hown2:(((wr.alloc (.cells (madeCells #[.int .u8 0] m) 5)).alloc (.cells #[.slice (some ⟨wr.heap.size,0,none⟩) m m] 41)).drew).ownsRow (w.heap.size+2) 41 1 v k xs:=((HO.out.alloc _).alloc _).drew
   have hslU:Sl (((wr.alloc (.cells (madeCells #[.int .u8 0] m) 5)).alloc (.cells #[.slice (some ⟨wr.heap.size,0,none⟩) m m] 41)).drew) No 41 (.slice (some ⟨wr.heap.size+1,0,none⟩) 1 1) 1 [.slice (some ⟨wr.heap.size,0,none⟩) m m]:=by
    refine .inr ⟨wr.heap.size+1,0,1,#[.slice (some ⟨wr.heap.size,0,none⟩) m m],(0,0),rfl,Nat.le_refl _,by unfold maxLen;omega,fun f=>f,?_,by simp,fun i hi=>by simp at hi;subst hi;rfl⟩
    exact heap_at_new _ _ (by simp)
   have hbase:w.heap.size+2<=(((wr.alloc (.cells (madeCells #[.int .u8 0] m) 5)).alloc (.cells #[.slice (some ⟨wr.heap.size,0,none⟩) m m] 41)).drew).heap.size:=by simp;omega
   have HS:=zh hslU
   have HO2:=zh hown2
   have HM2:=zh m2
   have HBa:=zh hbase
   clear hslU hown2 m1 m2 hbase
   refine wp_region_T (fun w'=>w'.cell? ⟨w.heap.size+1,0,none⟩=some v) 14 (by kernel_rfl) ?_
   refine wpAnyT_take 0 (some 14) ?_ rfl rfl (by kernel_rfl) (fun _ _ _ h=>h) hS0 (Or.inl ⟨by rfl,?_⟩) ?_
   rotate_left
   ·(intro w' hSw;go_simp;try with_reducible rfl)
   simp only [Act.put,yB,yC,yD]
   refine wpAnyT_take 1 (some 15) ?_ rfl rfl (by kernel_rfl) (fun _ _ _ h=>h) hS0 (Or.inl ⟨by rfl,?_⟩) ?_
   rotate_left
   ·(intro w' hSw;go_simp;try with_reducible rfl)
   simp only [Act.put,yB,yC,yD]
   refine wpAnyT_take 2 (some 16) ?_ rfl rfl (by kernel_rfl) (fun _ _ _ h=>h) hS0 (Or.inl ⟨by rfl,?_⟩) ?_
   rotate_left
   ·(intro w' hSw;go_simp;try with_reducible rfl)
   simp only [Act.put,yB,yC,yD]
   refine wpAnyT_take 3 (some 17) ?_ rfl rfl (by kernel_rfl) (fun _ _ _ h=>h) hS0 (Or.inl ⟨by rfl,?_⟩) ?_
   rotate_left
   ·(intro w' hSw;go_simp;try with_reducible rfl)
   simp only [Act.put,yB,yC,yD]
   refine wpAnyT_take 4 (some 18) ?_ rfl rfl (by kernel_rfl) (fun _ _ _ h=>h) hS0 (Or.inl ⟨by rfl,?_⟩) ?_
   rotate_left
   ·(intro w' hSw;go_simp;try with_reducible rfl)
   simp only [Act.put,yB,yC,yD]
   refine wpAnyT_take 5 (some 19) ?_ rfl rfl (by kernel_rfl) (fun _ _ _ h=>h) hS0 (Or.inl ⟨by rfl,?_⟩) ?_
   rotate_left
   ·(intro w' hSw;go_simp;try with_reducible rfl)
   simp only [Act.put,yB,yC,yD]
   refine wpAnyT_take 6 (some 20) ?_ rfl rfl (by kernel_rfl) (fun _ _ _ h=>h) hS0 (Or.inl ⟨by rfl,?_⟩) ?_
   rotate_left
   ·(intro w' hSw;go_simp;try with_reducible rfl)
   simp only [Act.put,yB,yC,yD]
   refine wpAnyT_one 7 rfl (by kernel_rfl) rfl ?_
   intro K hK
   go_simp
   (go_at_call 25;refine (HZH.out _).mono ?_;rintro e w' ⟨rfl,rfl⟩)
   show K _ _
   refine hK.out _ _ (fun _=>hS0) ?_
   clear hK K
   refine wpAnyT_one 8 rfl (by kernel_rfl) rfl ?_
   intro K hK
   go_simp
   show K _ _
   refine hK.out _ _ (fun _=>hS1) ?_
   clear hK K
   refine wpAnyT_one 9 rfl (by kernel_rfl) rfl ?_
   intro K hK
   go_simp
   show K _ _
   refine hK.out _ _ (fun _=>hS2) ?_
   clear hK K
   refine wpAnyT_one 10 rfl (by kernel_rfl) rfl ?_
   intro K hK
   refine wp_app_sl _ (.tmp 19) (.tmp 23) 69 (by rfl) (w.heap.size+2) 41 i0 (.slice none 0 0) 1 24 underlying69 hi hz0 hz1 hz2 rfl (by decide) v k xs (by rfl) HO2.out No 41 _ 1 [.slice (some ⟨wr.heap.size,0,none⟩) m m] (by rfl) HS.out rfl (by simp [Value.oneCell']) (by unfold maxLen;omega) (by omega) HBa.out ?_
   intro v' w4 hown4 hgr4 _
   obtain ⟨g4,cap4,rfl,hg4⟩:=own_shape hown4 (by omega)
   have hne4:v.ownBlock ≠ some (w.heap.size+1):=fun e=>by have:=(HO.out.lt _ e).1;omega
   have h4:=HM2.out.keep HB.out (fun f=>f)
   have m4:Mod (fun q=>v.ownBlock=some q) wr w4:=(HM2.out.weaken (fun _ _ f=>f.elim)).trans (Mod.of_grown hgr4 (fun q e _=>e))
   have h4:=m4.keep HB.out hne4
   have c4:=cell_of (i:=0) h4 rfl
   have f4:=frozen_of 0 h4
   have H4:=zh h4
   have HM4:=zh m4
   have HO4:=zh hown4
   have HG4:=zh hgr4
   clear h4 m4 hown4 hgr4 hne4
   refine hK.out _ _ (fun _=>c4) ?_
   clear hK K
   refine wpAnyT_one 11 rfl (by kernel_rfl) rfl ?_
   intro K hK
   go_simp
   show K _ _
   refine hK.out _ _ (fun _=>c4) ?_
   clear hK K
   refine wpAnyT_one 12 rfl (by kernel_rfl) rfl ?_
   intro K hK
   go_simp
   show K _ _
   refine hK.out _ _ (fun _=>c4) ?_
   clear hK K
   refine wpAnyT_one 13 rfl (by kernel_rfl) rfl ?_
   intro K hK
   go_simp
   show K _ _
   refine hK.out _ _ (fun _=>c4) ?_
   clear hK K
   refine wpAnyT_one 14 rfl (by kernel_rfl) rfl ?_
   intro K hK
   go_simp
   show K _ _
   refine hK.out _ _ (fun h=>absurd rfl h) ?_
   clear hK K
   refine wpAnyT_done (by kernel_rfl) ?_ _
   go_wp2
   refine ⟨⟨k+1,by omega,by go_num,?_⟩,by simp [intOf];omega⟩
   have hne4:(Value.slice (some ⟨g4,0,none⟩) (k+1) cap4).ownBlock ≠ some (w.heap.size+1):=fun e=>by
    have:=(HO4.out.lt _ e).1;omega
   have hother:∀ q,q < wr.heap.size->v.ownBlock ≠ some q->q ≠ w.heap.size+1->(w4.setCell ⟨w.heap.size+1,0,none⟩ (.slice (some ⟨g4,0,none⟩) (k+1) cap4)).heap[q]? = wr.heap[q]?:=fun q hq h1 h2=>by
    rw [heap_setCell_ne _ h2,HM4.out.block q hq h1]
   have hmodS:Mod (fun q=>v.ownBlock=some q\/q=w.heap.size+1) wr (w4.setCell ⟨w.heap.size+1,0,none⟩ (.slice (some ⟨g4,0,none⟩) (k+1) cap4)) :=
    (HM4.out.weaken fun _ _ e=>.inl e).setCell (fun _=>.inr rfl) _
   have hvB:∀ q,v.ownBlock=some q->w.heap.size+2<=q:=fun q e=>(HO.out.lt _ e).1
   have hnb:Beside wr (fun q=>q < w.heap.size) (fun q=>v.ownBlock=some q\/q=w.heap.size+1):=fun q hq=>.inr fun cur fz e=>by
    rcases hq with hq | hq
    ·obtain ⟨_,⟨rfl,_⟩ | ⟨g,cap,cur',rfl,_,hh,_⟩⟩:=HO.out
     ·simp [Value.ownBlock] at hq
     ·simp [Value.ownBlock] at hq
      subst hq;rw [hh] at e;cases e
    ·have:=HB.out
     subst hq;rw [this] at e;cases e
   refine ⟨.slice (some ⟨g4,0,none⟩) (k+1) cap4,xs++[.slice (some ⟨wr.heap.size,0,none⟩) m m],?_,?_,?_,fun j hj=>?_,?_,?_⟩
   ·rw [heap_setCell H4.out];rfl
   ·exact ownsRow_setCell_other HO4.out hne4 _
   ·exact HMp.out.keep hmodS (fun e=>e.elim (fun e=>by have:=hvB _ e;omega) (fun e=>by omega))
   ·have hxl:xs.length=k:=by have:=HO.out.1;simpa using this
    by_cases e:k=j
    ·subst e
     refine ⟨.slice (some ⟨wr.heap.size,0,none⟩) m m,by rw [List.getElem?_append_right (by omega)];simp [hxl],?_⟩
     have hU:Sl (((wr.alloc (.cells (madeCells #[.int .u8 0] m) 5)).alloc (.cells #[.slice (some ⟨wr.heap.size,0,none⟩) m m] 41)).drew) (fun q=>q < w.heap.size) 5 (.slice (some ⟨wr.heap.size,0,none⟩) m m) m (bv (List.replicate m 0)):=by
      refine .inr ⟨wr.heap.size,0,m,(bv (List.replicate m 0)).toArray,(0,0),rfl,Nat.le_refl _,by unfold maxLen;omega,by omega,?_,by simp,fun i hi=>by simp⟩
      show ((wr.alloc _).alloc _).heap[wr.heap.size]? = _
      rw [<- madeBytes]
      exact heap_alloc_old _ (heap_alloc_new _ _)
     have hm5:Mod (fun q=>v.ownBlock=some q\/q=w.heap.size+1) (((wr.alloc (.cells (madeCells #[.int .u8 0] m) 5)).alloc (.cells #[.slice (some ⟨wr.heap.size,0,none⟩) m m] 41)).drew) (w4.setCell ⟨w.heap.size+1,0,none⟩ (.slice (some ⟨g4,0,none⟩) (k+1) cap4)) :=
      (Mod.of_grown HG4.out (fun q e _=>.inl e)).setCell (fun _=>.inr rfl) _
     refine hU.keep hm5 fun q cur fz hq _ e=>?_
     rcases hq with hq | hq
     ·obtain ⟨_,⟨rfl,_⟩ | ⟨g,cap,cur',rfl,_,hh,_⟩⟩:=HO2.out
      ·simp [Value.ownBlock] at hq
      ·simp [Value.ownBlock] at hq
       subst hq;rw [hh] at e;cases e
     ·have hb2:=HM2.out.keep HB.out (fun f=>f)
      subst hq;rw [hb2] at e;cases e
    ·obtain ⟨u,hu,hsl⟩:=HX.out j (by omega)
     exact ⟨u,by rw [List.getElem?_append_left (by omega)];exact hu,hsl.beside hmodS hnb⟩
   ·exact HMod.out.then hmodS (fun q hq e=>e.elim (fun e=>by have:=hvB _ e;omega) (fun e=>by omega))
   ·have:=hmodS.size;omega
  ·have hk2:k=N:=by omega
   have HI:=zh hinv
   have HK:=zh hk2
   clear hinv hk2
   go_wp2
   refine fin hR ⟨N,m,rfl,HN.out.symm,HM.out.symm,?_⟩
   rw [<- HK.out]
   exact HI.out
def Dk.new (n size:Int):Dk:={ n:=(min (max n 1) 4096).toNat,sz:=(min (max size 64) 4096).toNat,sure:=fun _=>List.replicate (min (max size 64) 4096).toNat 0,dirty:=fun _=>none,cut:=-1,dead:=false }
theorem disk_new (X:Nat->Prop) (n size:Int) (w:World) (hX:∀ k,X k->k < w.heap.size) :
  Calls prog 9 #[.int .i64 n,.int .i64 size] w fun e w'=>∃ b sb mb,e=.returned (.pointer (some ⟨b,0,none⟩))/\w.heap.size<=b/\w.heap.size<=sb/\w.heap.size<=mb/\DkAt w' X b sb mb (Dk.new n size)/\Mod No w w':=by
 refine (new_any n size w).mono ?_
 rintro e w' ⟨N,m,rfl,hN,hm,v,xs,hb,hown,hmp,hxs,hmod,hsz⟩
 have e1:(min (max n 1) 4096).toNat=N:=by omega
 have e2:(min (max size 64) 4096).toNat=m:=by omega
 have hN0:0 < N:=by omega
 have hN2:N<=4096:=by omega
 have hm1:64<=m:=by omega
 have hm2:m<=4096:=by omega
 clear hN hm
 obtain ⟨hlen,⟨_,h0⟩ | ⟨g,cap,cur,rfl,hg,hh,hcap,hmax,hcur,htake⟩⟩:=hown
 ·omega
 refine ⟨w.heap.size+1,g,w.heap.size,rfl,by omega,by omega,Nat.le_refl _,?_,hmod⟩
 unfold Dk.new
 rw [e1,e2]
 refine ⟨⟨cap,hb,hcap,hmax⟩,⟨cur,hh,by rw [hcur];show N<=cap*1;omega,fun i hi=>?_⟩,⟨.map [],hmp,(fun kl h=>by simp [Maps.has_eq] at h),(fun _ _ _=>by simp [Maps.has_eq]),(fun _ _ _ h=>by cases h)⟩,(fun _ _=>by simp),
  (fun _ _ _ h=>by cases h),hN0,hN2,hm1,hm2,by simp,by simp⟩
 obtain ⟨u,hu,hsl⟩:=hxs i hi
 refine ⟨u,?_,hsl.shrink fun k _ hk=>hX k hk⟩
 rw [<- htake,List.getElem?_take] at hu
 split at hu
 ·simpa using hu
 ·cases hu
end Go.Proofs.YtmppeipgjcjdkaaGreatDoor
