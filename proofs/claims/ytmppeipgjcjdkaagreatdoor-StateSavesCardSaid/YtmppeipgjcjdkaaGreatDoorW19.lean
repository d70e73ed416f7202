/-
  Layers 0 to 14: helps of the laws of indexes. No statement is proved here; no condition.
-/
import Derived.Test.YtmppeipgjcjdkaaGreatDoorW18
import Derived.Defers
import Derived.Recover
namespace Go.Proofs.YtmppeipgjcjdkaaGreatDoor
open _root_.Go.Proofs.Tryz
open Go.RowKit
set_option maxRecDepth 100000 in
theorem open_no {b sb mb p:Nat} {d:Dk} {w:World} (side at_ next:Nat) (ha:d.n / 2<=at_) (h:DkAt w No b sb mb d) (c0:w.cell? ⟨p,0,none⟩=some (.pointer (some ⟨b,0,none⟩))) :
  Calls prog 64 #[.pointer (some ⟨p,0,none⟩),.int .i64 (side:Int),.int .i64 (at_:Int),.int .u64 (next:Int)] w fun e w'=>e=Stopped/\w'=w:=by
 refine calls_hide fun R hR=>?_
 have HS:=zh (sector_no (p:=p) side at_ ha h c0)
 clear h c0
 go_enter func64,ntmps64
 go_wp2_with fail
 refine HS.out.mono ?_
 rintro e w1 ⟨rfl,h2⟩
 subst h2
 go_wp2_with fail
 exact ⟨rfl,fin hR ⟨rfl,rfl⟩⟩
theorem rd_no {S:Nat->List UInt8} {h size side at_ next:Nat} (ha:h<=at_):rd S h size side at_ next=none:=by
 unfold rd;rw [if_neg (by omega)]
theorem open_any {b sb mb p:Nat} {d:Dk} {w:World} (side at_ next:Nat) (hs:side < 2) (hnx:next+1 < 18446744073709551616) (hz:128<=d.sz) (hw:Well d) (h:DkAt w No b sb mb d) (c0:w.cell? ⟨p,0,none⟩=some (.pointer (some ⟨b,0,none⟩))) :
  Calls prog 64 #[.pointer (some ⟨p,0,none⟩),.int .i64 (side:Int),.int .i64 (at_:Int),.int .u64 (next:Int)] w fun e w' =>
   (match rd d.last (d.n / 2) (d.sz - 16) side at_ next with
    | some (t,rs,beh)=>∃ v,e=.returned (.tuple #[.int .u64 (t:Int),v,.int .i64 (beh:Int)])/\OwnRecs w' w.heap.size v rs
    | none=>e=Stopped)/\Mod No w w':=by
 rcases Nat.lt_or_ge at_ (d.n / 2) with ha | ha
 ·exact open_ok side at_ next hs ha hnx hz hw h c0
 ·refine (open_no side at_ next ha h c0).mono ?_
  rintro e w' ⟨rfl,rfl⟩
  rw [rd_no ha]
  exact ⟨rfl,Mod.refl _ _⟩
set_option maxRecDepth 100000 in
set_option maxHeartbeats 1000000 in
theorem stop_idle (p q:Nat) (w:World) :
  CallsD prog 123 #[.pointer (some ⟨p,0,none⟩),.pointer (some ⟨q,0,none⟩)] .returning w fun e u' w'=>e=.returned (.tuple #[])/\u'=.returning/\w'=w:=by
 refine callsD_of_wpS func123 rfl fun c₀ cs hu=>?_
 apply wpS_seq
 apply wpS_region
 simp [wpOpsS,go_sem,recoverD,hu,ntmps123,Exit.thenS]
 refine wpS_of_wp ?_
 refine wp_mono (Q:=Exit.then (fun a' w'=>a'.defers=[]/\w'=w) Nope) ?_ ?_
 ·refine wp_part fun J K' hJ hK=>?_
  go_wp2_with fail
  exact Met.intro (hJ _ _ ⟨rfl,rfl⟩)
 ·rintro e a' w' hq
  cases e with
  | normal =>
   obtain ⟨hd,rfl⟩:=hq
   cases c₀
   simp_all [bodyPostS,results,results123]
  | exit id=>exact hq.elim
  | goto l=>exact hq.elim
  | ret=>exact hq.elim
  | panic ch=>exact hq.elim
  | outgrown=>exact hq.elim
theorem assert_stop (w:World) (v:Value):(Instr.typeAssert (.iface 215 v) 20 215 true).run prog w=.ok (.tuple #[v,.bool true]) w:=by kernel_rfl
set_option maxRecDepth 100000 in
set_option maxHeartbeats 1000000 in
theorem stop_caught (p q:Nat) (x:Bool) (y:Int) (w:World) (hp:w.heap[p]? = some (.cells #[.bool x] 4 (0,0))) (hq:w.heap[q]? = some (.cells #[.int .i64 y] 26 (0,0))) :
  CallsD prog 123 #[.pointer (some ⟨p,0,none⟩),.pointer (some ⟨q,0,none⟩)] (.panicking [{ v:=stopV,recovered:=false }]) w fun e u' w' =>
   e=.returned (.tuple #[])/\u'=.panicking [{ v:=stopV,recovered:=true }]/\w'.heap[p]? = some (.cells #[.bool false] 4 (0,0))/\w'.heap[q]? = some (.cells #[.int .i64 0] 26 (0,0))/\Mod (fun k=>k=p\/k=q) w w':=by
 refine callsD_of_wpS func123 rfl fun c₀ cs hu=>?_
 apply wpS_seq
 apply wpS_region
 simp [wpOpsS,go_sem,recoverD,hu,ntmps123,Exit.thenS]
 refine wpS_of_wp ?_
 have p0:=cell_of (i:=0) hp rfl
 have q0:=cell_of (i:=0) hq rfl
 refine wp_mono (Q:=Exit.then (fun a' w'=>a'.defers=[]/\w'.heap[p]? = some (.cells #[.bool false] 4 (0,0))/\w'.heap[q]? = some (.cells #[.int .i64 0] 26 (0,0))/\Mod (fun k=>k=p\/k=q) w w') Nope) ?_ ?_
 ·refine wp_part fun J K' hJ hK=>?_
  have hta:=assert_stop
  simp only [Array.replicate_succ,Array.replicate_zero]
  go_upto_region 5 with fail
  have hpl:=lt_of_heap hp
  have hql:=lt_of_heap hq
  have hpq:p ≠ q:=fun e=>by subst e;rw [hp] at hq;cases hq
  obtain ⟨wd,hwd⟩:∃ wd,wd=(w.alloc (.cells #[.int .i64 0] 215)).drew:=⟨_,rfl⟩
  have hmd:Mod No w wd:=by rw [hwd];exact ((Mod.refl No w).alloc _).drew
  have hs0:wd.heap[w.heap.size]? = some (.cells #[.int .i64 0] 215 (0,0)):=by rw [hwd];exact heap_alloc_new w _
  have hp1:=hmd.keep hp (fun f=>f)
  have hq1:=hmd.keep hq (fun f=>f)
  have hS0:=cell_of (i:=0) hs0 rfl
  have pc:=cell_of (i:=0) hp1 rfl
  have pf:=frozen_of 0 hp1
  have m2:Mod (fun k=>k=p) wd (wd.setCell ⟨p,0,none⟩ (.bool false)):=(Mod.refl (fun k=>k=p) wd).setCell (fun _=>rfl) _
  have hS2:=cell_of (i:=0) (m2.keep hs0 (by omega)) rfl
  have hq2:=m2.keep hq1 (Ne.symm hpq)
  have qc:=cell_of (i:=0) hq2 rfl
  have qf:=frozen_of 0 hq2
  have hp2:=heap_setCell hp1 (i:=0) (.bool false)
  have m3:Mod (fun k=>k=q) (wd.setCell ⟨p,0,none⟩ (.bool false)) ((wd.setCell ⟨p,0,none⟩ (.bool false)).setCell ⟨q,0,none⟩ (.int .i64 0)):=(Mod.refl (fun k=>k=q) _).setCell (fun _=>rfl) _
  have R1:=zh (m3.keep hp2 hpq)
  have R2:=zh (heap_setCell hq2 (i:=0) (.int .i64 0))
  have R3:=zh (show Mod (fun k=>k=p\/k=q) w ((wd.setCell ⟨p,0,none⟩ (.bool false)).setCell ⟨q,0,none⟩ (.int .i64 0)) from
   ((hmd.weaken fun _ _ f=>f.elim).setCell (fun _=>.inl rfl) _).setCell (fun _=>.inr rfl) _)
  have HS2:=zh hS2
  have HWD:=zh hwd
  clear hwd hp hq hs0 hmd hp1 hq1 m2 hS2 hq2 hp2 m3 hpq hpl hql p0 q0
  refine wp_region_T (fun w'=>w'.cell? ⟨w.heap.size,0,none⟩=some (.int .i64 0)) 3 (by kernel_rfl) ?_
  rw [<- HWD.out]
  refine wpAnyT_take 0 (some 16) ?_ rfl rfl (by kernel_rfl) (fun _ _ _ h=>h) hS0 (Or.inl ⟨by rfl,?_⟩) ?_
  rotate_left
  ·(intro w' hSw;go_simp;try with_reducible rfl)
  simp only [Act.put,yB,yC,yD]
  refine wpAnyT_take 1 (some 17) ?_ rfl rfl (by kernel_rfl) (fun _ _ _ h=>h) hS0 (Or.inl ⟨by rfl,?_⟩) ?_
  rotate_left
  ·(intro w' hSw;go_simp;try with_reducible rfl)
  simp only [Act.put,yB,yC,yD]
  refine wpAnyT_one 2 rfl (by kernel_rfl) rfl ?_
  intro K hK
  go_simp
  show K _ _
  refine hK.out _ _ (fun _=>HS2.out) ?_
  clear hK K
  refine wpAnyT_one 3 rfl (by kernel_rfl) rfl ?_
  intro K hK
  go_simp
  show K _ _
  refine hK.out _ _ (fun h=>absurd rfl h) ?_
  clear hK K
  refine wpAnyT_done (by kernel_rfl) ?_ _
  go_wp2_with fail
  exact Met.intro (hJ _ _ ⟨rfl,R1.out,R2.out,R3.out⟩)
 ·rintro e a' w' hq
  cases e with
  | normal =>
   obtain ⟨hd,h1,h2,h3⟩:=hq
   cases c₀
   simp_all [bodyPostS,results,results123]
  | exit id=>exact hq.elim
  | goto l=>exact hq.elim
  | ret=>exact hq.elim
  | panic ch=>exact hq.elim
  | outgrown=>exact hq.elim
set_option maxRecDepth 100000 in
set_option maxHeartbeats 1000000 in
theorem try_begin (c1 c2 c3:Value) (w:World) (S:Nat->Prop) (Yes Nay:World->Prop) (hS:∀ q,S q->q < w.heap.size)
  (hf:∀ w1,Mod No w w1->Calls prog 122 #[c1,c2,c3] w1 fun e w'=>Mod S w1 w'/\((e=.returned (.tuple #[])/\Yes w')\/(e=Stopped/\Nay w'))) :
  Calls prog 62 #[.func (.func 122) #[] #[c1,c2,c3]] w fun e w'=>∃ wy,Mod S w wy/\(wy.heap[w.heap.size]? = some (.cells #[.bool false] 4 (0,0))/\wy.heap[w.heap.size+1]? = some (.cells #[.int .i64 0] 26 (0,0)))/\Mod (fun q=>q=w.heap.size\/q=w.heap.size+1) wy w' ∧
   ((e=.returned (.tuple #[.bool true,.int .i64 0])/\Yes wy)\/(e=.returned (.tuple #[.bool false,.int .i64 0])/\Nay wy)):=by
 refine calls_hide fun R hR=>?_
 have hmf:∀ (fn:Fn) (first cap:Array Value) (w:World),(Instr.makeFunc fn first cap).run prog w=.ok (.func fn first cap) w:=fun _ _ _ _=>rfl
 obtain ⟨w1,hw1⟩:∃ w1,w1=(w.alloc (.cells #[.bool false] 4)).alloc (.cells #[.int .i64 0] 26):=⟨_,rfl⟩
 have m1:Mod No w w1:=by rw [hw1];exact ((Mod.refl No w).alloc _).alloc _
 have hp:w1.heap[w.heap.size]? = some (.cells #[.bool false] 4 (0,0)):=by
  rw [hw1];exact heap_alloc_old _ (heap_alloc_new w _)
 have hq:w1.heap[w.heap.size+1]? = some (.cells #[.int .i64 0] 26 (0,0)):=by
  rw [hw1];exact heap_at_new _ _ (by simp)
 have HF:=zh (hf w1 m1)
 have HW1:=zh hw1
 have M1:=zh m1
 have HP:=zh hp
 have HQ:=zh hq
 have HS:=zh hS
 clear hf hw1 m1 hp hq hS
 go_enter_defers func62,ntmps62
 go_wp2_with fail
 rw [<- HW1.out]
 refine HF.out.mono ?_
 clear HF
 rintro e wy ⟨hmy,hcase⟩
 have hpy:=hmy.keep HP.out (fun e=>by have:=HS.out _ e;omega)
 have hqy:=hmy.keep HQ.out (fun e=>by have:=HS.out _ e;omega)
 have HPQ:=zh (And.intro hpy hqy)
 have MY:=zh (show Mod S w wy from (M1.out.weaken fun _ _ f=>f.elim).trans hmy)
 clear HW1
 rcases hcase with ⟨rfl,hy⟩ | ⟨rfl,hn⟩
 ·have HY:=zh hy
  have p0:=cell_of (i:=0) hpy rfl
  have pf:=frozen_of 0 hpy
  have m2:Mod (fun q=>q=w.heap.size) wy (wy.setCell ⟨w.heap.size,0,none⟩ (.bool true)):=(Mod.refl (fun q=>q=w.heap.size) wy).setCell (fun _=>rfl) _
  have hq2:=m2.keep hqy (by omega)
  have q0:=cell_of (i:=0) hq2 rfl
  have qf:=frozen_of 0 hq2
  have hp2:=heap_setCell hpy (i:=0) (.bool true)
  have m3:Mod (fun q=>q=w.heap.size+1) (wy.setCell ⟨w.heap.size,0,none⟩ (.bool true)) ((wy.setCell ⟨w.heap.size,0,none⟩ (.bool true)).setCell ⟨w.heap.size+1,0,none⟩ (.int .i64 0)):=(Mod.refl (fun q=>q=w.heap.size+1) _).setCell (fun _=>rfl) _
  have R1:=zh (cell_of (i:=0) (m3.keep hp2 (by omega)) rfl)
  have R2:=zh (cell_of (i:=0) (heap_setCell hq2 (i:=0) (.int .i64 0)) rfl)
  have R3:=zh (show Mod (fun q=>q=w.heap.size\/q=w.heap.size+1) wy ((wy.setCell ⟨w.heap.size,0,none⟩ (.bool true)).setCell ⟨w.heap.size+1,0,none⟩ (.int .i64 0)) from
   ((Mod.refl (fun q=>q=w.heap.size\/q=w.heap.size+1) wy).setCell (fun _=>.inl rfl) _).setCell (fun _=>.inr rfl) _)
  clear hy hpy hqy m2 hq2 hp2 m3
  go_wp2_with fail
  refine leaves_cons (f:=123) (args:=#[.pointer (some ⟨w.heap.size,0,none⟩),.pointer (some ⟨w.heap.size+1,0,none⟩)]) (by simp) (by simp [go_sem]) ?_
  refine (stop_idle _ _ _).mono ?_
  rintro e u' w'' ⟨rfl,rfl,rfl⟩
  have r1:=R1.out
  have r2:=R2.out
  refine ⟨.tuple #[.bool true,.int .i64 0],?_,?_⟩
  ·simp [results,results62,go_sem,r1,r2]
  ·exact fin hR ⟨wy,MY.out,HPQ.out,R3.out,.inl ⟨rfl,HY.out⟩⟩
 ·have HNO:=zh hn
  clear hn
  go_wp2_with fail
  refine leaves_cons (f:=123) (args:=#[.pointer (some ⟨w.heap.size,0,none⟩),.pointer (some ⟨w.heap.size+1,0,none⟩)]) (by simp) (by simp [go_sem]) ?_
  refine (stop_caught _ _ _ _ _ hpy hqy).mono ?_
  rintro e u' w'' ⟨rfl,rfl,r1,r2,hm⟩
  have r1:=cell_of (i:=0) r1 rfl
  have r2:=cell_of (i:=0) r2 rfl
  refine ⟨.tuple #[.bool false,.int .i64 0],?_,?_⟩
  ·simp [results,results62,go_sem,r1,r2]
  ·exact fin hR ⟨wy,MY.out,HPQ.out,hm,.inr ⟨rfl,HNO.out⟩⟩
set_option maxRecDepth 100000 in
set_option maxHeartbeats 1000000 in
theorem try_open (c1 c2 c3:Value) (w:World) (S:Nat->Prop) (Yes Nay:World->Prop) (hS:∀ q,S q->q < w.heap.size)
  (hf:∀ w1,Mod No w w1->Calls prog 63 #[c1,c2,c3] w1 fun e w'=>Mod S w1 w'/\((e=.returned (.tuple #[])/\Yes w')\/(e=Stopped/\Nay w'))) :
  Calls prog 62 #[.func (.func 63) #[] #[c1,c2,c3]] w fun e w'=>∃ wy,Mod S w wy/\(wy.heap[w.heap.size]? = some (.cells #[.bool false] 4 (0,0))/\wy.heap[w.heap.size+1]? = some (.cells #[.int .i64 0] 26 (0,0)))/\Mod (fun q=>q=w.heap.size\/q=w.heap.size+1) wy w' ∧
   ((e=.returned (.tuple #[.bool true,.int .i64 0])/\Yes wy)\/(e=.returned (.tuple #[.bool false,.int .i64 0])/\Nay wy)):=by
 refine calls_hide fun R hR=>?_
 have hmf:∀ (fn:Fn) (first cap:Array Value) (w:World),(Instr.makeFunc fn first cap).run prog w=.ok (.func fn first cap) w:=fun _ _ _ _=>rfl
 obtain ⟨w1,hw1⟩:∃ w1,w1=(w.alloc (.cells #[.bool false] 4)).alloc (.cells #[.int .i64 0] 26):=⟨_,rfl⟩
 have m1:Mod No w w1:=by rw [hw1];exact ((Mod.refl No w).alloc _).alloc _
 have hp:w1.heap[w.heap.size]? = some (.cells #[.bool false] 4 (0,0)):=by
  rw [hw1];exact heap_alloc_old _ (heap_alloc_new w _)
 have hq:w1.heap[w.heap.size+1]? = some (.cells #[.int .i64 0] 26 (0,0)):=by
  rw [hw1];exact heap_at_new _ _ (by simp)
 have HF:=zh (hf w1 m1)
 have HW1:=zh hw1
 have M1:=zh m1
 have HP:=zh hp
 have HQ:=zh hq
 have HS:=zh hS
 clear hf hw1 m1 hp hq hS
 go_enter_defers func62,ntmps62
 go_wp2_with fail
 rw [<- HW1.out]
 refine HF.out.mono ?_
 clear HF
 rintro e wy ⟨hmy,hcase⟩
 have hpy:=hmy.keep HP.out (fun e=>by have:=HS.out _ e;omega)
 have hqy:=hmy.keep HQ.out (fun e=>by have:=HS.out _ e;omega)
 have HPQ:=zh (And.intro hpy hqy)
 have MY:=zh (show Mod S w wy from (M1.out.weaken fun _ _ f=>f.elim).trans hmy)
 clear HW1
 rcases hcase with ⟨rfl,hy⟩ | ⟨rfl,hn⟩
 ·have HY:=zh hy
  have p0:=cell_of (i:=0) hpy rfl
  have pf:=frozen_of 0 hpy
  have m2:Mod (fun q=>q=w.heap.size) wy (wy.setCell ⟨w.heap.size,0,none⟩ (.bool true)):=(Mod.refl (fun q=>q=w.heap.size) wy).setCell (fun _=>rfl) _
  have hq2:=m2.keep hqy (by omega)
  have q0:=cell_of (i:=0) hq2 rfl
  have qf:=frozen_of 0 hq2
  have hp2:=heap_setCell hpy (i:=0) (.bool true)
  have m3:Mod (fun q=>q=w.heap.size+1) (wy.setCell ⟨w.heap.size,0,none⟩ (.bool true)) ((wy.setCell ⟨w.heap.size,0,none⟩ (.bool true)).setCell ⟨w.heap.size+1,0,none⟩ (.int .i64 0)):=(Mod.refl (fun q=>q=w.heap.size+1) _).setCell (fun _=>rfl) _
  have R1:=zh (cell_of (i:=0) (m3.keep hp2 (by omega)) rfl)
  have R2:=zh (cell_of (i:=0) (heap_setCell hq2 (i:=0) (.int .i64 0)) rfl)
  have R3:=zh (show Mod (fun q=>q=w.heap.size\/q=w.heap.size+1) wy ((wy.setCell ⟨w.heap.size,0,none⟩ (.bool true)).setCell ⟨w.heap.size+1,0,none⟩ (.int .i64 0)) from
   ((Mod.refl (fun q=>q=w.heap.size\/q=w.heap.size+1) wy).setCell (fun _=>.inl rfl) _).setCell (fun _=>.inr rfl) _)
  clear hy hpy hqy m2 hq2 hp2 m3
  go_wp2_with fail
  refine leaves_cons (f:=123) (args:=#[.pointer (some ⟨w.heap.size,0,none⟩),.pointer (some ⟨w.heap.size+1,0,none⟩)]) (by simp) (by simp [go_sem]) ?_
  refine (stop_idle _ _ _).mono ?_
  rintro e u' w'' ⟨rfl,rfl,rfl⟩
  have r1:=R1.out
  have r2:=R2.out
  refine ⟨.tuple #[.bool true,.int .i64 0],?_,?_⟩
  ·simp [results,results62,go_sem,r1,r2]
  ·exact fin hR ⟨wy,MY.out,HPQ.out,R3.out,.inl ⟨rfl,HY.out⟩⟩
 ·have HNO:=zh hn
  clear hn
  go_wp2_with fail
  refine leaves_cons (f:=123) (args:=#[.pointer (some ⟨w.heap.size,0,none⟩),.pointer (some ⟨w.heap.size+1,0,none⟩)]) (by simp) (by simp [go_sem]) ?_
  refine (stop_caught _ _ _ _ _ hpy hqy).mono ?_
  rintro e u' w'' ⟨rfl,rfl,r1,r2,hm⟩
  have r1:=cell_of (i:=0) r1 rfl
  have r2:=cell_of (i:=0) r2 rfl
  refine ⟨.tuple #[.bool false,.int .i64 0],?_,?_⟩
  ·simp [results,results62,go_sem,r1,r2]
  ·exact fin hR ⟨wy,MY.out,HPQ.out,hm,.inr ⟨rfl,HNO.out⟩⟩
theorem getN_lt (l:List UInt8):getN l < 18446744073709551616:=by
 unfold getN
 generalize hz:(0:Nat)=z
 have hz':z < 18446744073709551616:=by omega
 clear hz
 induction l generalizing z with
 | nil=>exact hz'
 | cons x l ih=>exact ih _ (Nat.mod_lt _ (by omega))
theorem rd_turn {S:Nat->List UInt8} {h size side at_ next t beh:Nat} {rs:List (List UInt8)} (hs:0 < size) (e:rd S h size side at_ next=some (t,rs,beh)):t < 18446744073709551616:=by
 obtain ⟨_,_,_,h1,_⟩:=rd_some hs e
 rw [<- h1];exact getN_lt _
theorem mod2_u64 (t:Nat) (side:Nat):(((t:Int) % 2) == (side:Int))=decide (t % 2=side):=by
 rw [Bool.eq_iff_iff];simp;omega
set_option maxRecDepth 100000 in
set_option maxHeartbeats 1000000 in
theorem begin1_any {b sb mb p:Nat} {d:Dk} {w:World} (lv sv tv side:Nat) (t0:Value) (hs:side < 2) (hz:128<=d.sz) (hw:Well d) (h:DkAt w No b sb mb d) (c0:w.cell? ⟨p,0,none⟩=some (.pointer (some ⟨b,0,none⟩)))
  (hl:w.heap[lv]? = some (.cells #[.pointer (some ⟨p,0,none⟩)] 68 (0,0))) (hsv:w.heap[sv]? = some (.cells #[.int .i64 (side:Int)] 3 (0,0))) (htv:w.heap[tv]? = some (.cells #[t0] 130 (0,0))) :
  Calls prog 122 #[.pointer (some ⟨lv,0,none⟩),.pointer (some ⟨sv,0,none⟩),.pointer (some ⟨tv,0,none⟩)] w fun e w'=>Mod (fun q=>q=tv) w w' ∧
   ((e=.returned (.tuple #[])/\∃ t:Nat,firstT d.last (d.n / 2) (d.sz - 16) side=some t/\w'.heap[tv]? = some (.cells #[.int .u64 (t:Int)] 130 (0,0)))\/(e=Stopped/\firstT d.last (d.n / 2) (d.sz - 16) side=none)):=by
 refine calls_hide fun R hR=>?_
 have HO:=open_any (p:=p) side 0 0 hs (by omega) hz hw h c0
 have l0:=cell_of (i:=0) hl rfl
 have s0:=cell_of (i:=0) hsv rfl
 have HTV:=zh htv
 have HSV:=zh hsv
 have hst:sv ≠ tv:=fun e=>by subst e;rw [hsv] at htv;cases htv
 have hsz:0 < d.sz - 16:=by omega
 clear h c0 hw hl hsv htv
 unfold firstT at hR
 cases hrd:rd d.last (d.n / 2) (d.sz - 16) side 0 0 with
 | none =>
  rw [hrd] at HO hR
  have HO:=zh HO
  clear hrd
  go_enter func122,ntmps122
  go_wp2_with fail
  refine HO.out.mono ?_
  rintro e w1 ⟨rfl,hm⟩
  go_wp2_with fail
  exact ⟨rfl,fin hR ⟨hm.weaken fun _ _ f=>f.elim,.inr ⟨rfl,by trivial⟩⟩⟩
 | some q =>
  obtain ⟨t,rs,beh⟩:=q
  have htb:=rd_turn hsz hrd
  rw [hrd] at HO hR
  have HO:=zh HO
  clear hrd
  go_enter func122,ntmps122
  go_wp2_with fail
  refine HO.out.mono ?_
  clear HO
  rintro e w1 ⟨⟨v,rfl,_⟩,hm⟩
  have htv1:=hm.keep HTV.out (fun f=>f)
  have tc:=cell_of (i:=0) htv1 rfl
  have tf:=frozen_of 0 htv1
  have m2:Mod (fun q=>q=tv) w1 (w1.setCell ⟨tv,0,none⟩ (.int .u64 (t:Int))):=(Mod.refl (fun q=>q=tv) w1).setCell (fun _=>rfl) _
  have ht2:=heap_setCell htv1 (i:=0) (.int .u64 (t:Int))
  have t1:=cell_of (i:=0) ht2 rfl
  have s1:=cell_of (i:=0) (m2.keep (hm.keep HSV.out (fun f=>f)) hst) rfl
  have HT2:=zh ht2
  have M2:=zh ((hm.weaken (T:=fun q=>q=tv) fun _ _ f=>f.elim).trans m2)
  have hmod:=mod2_u64 t side
  clear hm htv1 m2 ht2
  by_cases hp:t % 2=side
  ·have hd:decide (t % 2=side)=true:=decide_eq_true hp
   rw [hd] at hmod
   have HPP:=zh hp
   clear hp hd
   go_wp2_with fail
   refine (must_yes 0 _).mono ?_
   rintro e w3 ⟨rfl,h3⟩
   subst h3
   go_wp2_with fail
   go_end0
   exact fin hR ⟨M2.out,.inl ⟨rfl,t,by rw [if_pos HPP.out],HT2.out⟩⟩
  ·have hd:decide (t % 2=side)=false:=decide_eq_false hp
   rw [hd] at hmod
   have HPP:=zh hp
   clear hp hd
   go_wp2_with fail
   refine (must_no _).mono ?_
   rintro e w3 ⟨rfl,h3⟩
   subst h3
   go_wp2_with fail
   exact ⟨rfl,fin hR ⟨M2.out,.inr ⟨rfl,by rw [if_neg HPP.out]⟩⟩⟩
set_option maxRecDepth 100000 in
set_option maxHeartbeats 2000000 in
theorem open1_any {b sb mb p ub:Nat} {d:Dk} {w:World} (lv rv bv' count:Nat) (L:Lg) (v0 v1:Value) (hnx:L.next+1 < 18446744073709551616) (hz:128<=d.sz) (hw:Well d) (h:DkAt w No b sb mb d)
  (hp:w.heap[p]? = some (LgObj b ub L.turn L.next L.at_ count)) (hl:w.heap[lv]? = some (.cells #[.pointer (some ⟨p,0,none⟩)] 68 (0,0))) (hrv:w.heap[rv]? = some (.cells #[v0] 69 (0,0))) (hbv:w.heap[bv']? = some (.cells #[v1] 3 (0,0))) :
  Calls prog 63 #[.pointer (some ⟨lv,0,none⟩),.pointer (some ⟨rv,0,none⟩),.pointer (some ⟨bv',0,none⟩)] w fun e w'=>Mod (fun q=>q=rv\/q=bv') w w' ∧
   ((e=.returned (.tuple #[])/\∃ (rs:List (List UInt8)) (beh:Nat) (v:Value),rd d.last (d.n / 2) (d.sz - 16) (L.turn % 2) L.at_ L.next=some (L.turn,rs,beh)/\w'.heap[rv]? = some (.cells #[v] 69 (0,0))/\OwnRecs w' w.heap.size v rs/\w'.heap[bv']? = some (.cells #[.int .i64 (beh:Int)] 3 (0,0))) ∨
    (e=Stopped/\Stop d.last (d.n / 2) (d.sz - 16) (L.turn % 2) L.turn L.at_ L.next)):=by
 refine calls_hide fun R hR=>?_
 have hside:L.turn % 2 < 2:=Nat.mod_lt _ (by omega)
 have c0:=cell_of (i:=0) hp rfl
 have HO:=open_any (p:=p) (w:=w.drew) (L.turn % 2) L.at_ L.next hside hnx hz hw (h.stay (Mod.refl No w).drew) c0
 have hS0:w.drew.cell? ⟨lv,0,none⟩=some (.pointer (some ⟨p,0,none⟩))/\w.drew.cell? ⟨p,1,none⟩=some (.int .u64 (L.turn:Int))/\w.drew.cell? ⟨p,2,none⟩=some (.int .u64 (L.next:Int))/\w.drew.cell? ⟨p,3,none⟩=some (.int .i64 (L.at_:Int)):=⟨cell_of (i:=0) hl rfl,cell_of (i:=1) hp rfl,cell_of (i:=2) hp rfl,cell_of (i:=3) hp rfl⟩
 have HRV:=zh hrv
 have HBV:=zh hbv
 have HPP:=zh hp
 have HLL:=zh hl
 have HRB:=zh (show rv ≠ bv' from fun e=>by subst e;rw [hrv] at hbv;cases hbv)
 have HPR:=zh (show ¬ (p=rv\/p=bv') from fun e=>by
  rcases e with e | e
  ·subst e;rw [hp] at hrv;cases hrv
  ·subst e;rw [hp] at hbv;cases hbv)
 have HLR:=zh (show ¬ (lv=rv\/lv=bv') from fun e=>by
  rcases e with e | e
  ·subst e;rw [hl] at hrv;cases hrv
  ·subst e;rw [hl] at hbv;cases hbv)
 have HE2:=zh (show IntKind.i64.wrap ((L.turn:Int).tmod 2)=((L.turn % 2:Nat):Int) by rw [Int.tmod_eq_emod_of_nonneg (Int.natCast_nonneg _),IntKind.wrap_i64];omega)
 clear h c0 hw hl hrv hbv hp
 unfold Stop at hR
 cases hrd:rd d.last (d.n / 2) (d.sz - 16) (L.turn % 2) L.at_ L.next with
 | none =>
  rw [hrd] at HO hR
  have HOP:=zh HO
  clear HO hrd
  go_enter func63,ntmps63
  go_upto_region 0 with fail
  refine wp_region_T (fun w'=>w'.cell? ⟨lv,0,none⟩=some (.pointer (some ⟨p,0,none⟩))/\w'.cell? ⟨p,1,none⟩=some (.int .u64 (L.turn:Int))/\w'.cell? ⟨p,2,none⟩=some (.int .u64 (L.next:Int))/\w'.cell? ⟨p,3,none⟩=some (.int .i64 (L.at_:Int))) 22 (by kernel_rfl) ?_
  refine wpAnyT_take 0 (some 7) ?_ rfl rfl (by kernel_rfl) (fun _ _ _ h=>h) hS0 (Or.inl ⟨by rfl,?_⟩) ?_
  rotate_left
  ·(intro w' hSw;go_simp;try with_reducible rfl)
  simp only [Act.put,yB,yC,yD]
  refine wpAnyT_take 1 (some 8) ?_ rfl rfl (by kernel_rfl) (fun _ _ _ h=>h) hS0 (Or.inl ⟨by rfl,?_⟩) ?_
  rotate_left
  ·(intro w' hSw;go_simp;try with_reducible rfl)
  simp only [Act.put,yB,yC,yD]
  refine wpAnyT_take 2 (some 9) ?_ rfl rfl (by kernel_rfl) (fun _ _ _ h=>h) hS0 (Or.inl ⟨by rfl,?_⟩) ?_
  rotate_left
  ·(intro w' hSw;go_simp;try with_reducible rfl)
  simp only [Act.put,yB,yC,yD]
  refine wpAnyT_take 3 (some 10) ?_ rfl rfl (by kernel_rfl) (fun _ _ _ h=>h) hS0 (Or.inl ⟨by rfl,?_⟩) ?_
  rotate_left
  ·(intro w' hSw;go_simp;try with_reducible rfl)
  simp only [Act.put,yB,yC,yD]
  refine wpAnyT_take 4 (some 11) ?_ rfl rfl (by kernel_rfl) (fun _ _ _ h=>h) hS0 (Or.inl ⟨by rfl,?_⟩) ?_
  rotate_left
  ·(intro w' hSw;go_simp;try with_reducible rfl)
  simp only [Act.put,yB,yC,yD]
  refine wpAnyT_take 5 (some 12) ?_ rfl rfl (by kernel_rfl) (fun _ _ _ h=>h) hS0 (Or.inl ⟨by rfl,?_⟩) ?_
  rotate_left
  ·(intro w' hSw;go_simp;try with_reducible rfl)
  simp only [Act.put,yB,yC,yD]
  refine wpAnyT_take 6 (some 13) ?_ rfl rfl (by kernel_rfl) (fun _ _ _ h=>h) hS0 (Or.inl ⟨by rfl,?_⟩) ?_
  rotate_left
  ·(intro w' hSw;go_simp;try with_reducible rfl)
  simp only [Act.put,yB,yC,yD]
  refine wpAnyT_take 7 (some 14) ?_ rfl rfl (by kernel_rfl) (fun _ _ _ h=>h) hS0 (Or.inl ⟨by rfl,?_⟩) ?_
  rotate_left
  ·(intro w' hSw;go_simp;try with_reducible rfl)
  simp only [Act.put,yB,yC,yD]
  refine wpAnyT_take 8 (some 15) ?_ rfl rfl (by kernel_rfl) (fun _ _ _ h=>h) hS0 (Or.inl ⟨by rfl,?_⟩) ?_
  rotate_left
  ·(intro w' hSw;go_simp;try with_reducible rfl)
  simp only [Act.put,yB,yC,yD]
  refine wpAnyT_take 9 (some 16) ?_ rfl rfl (by kernel_rfl) (fun _ _ _ h=>h) hS0 (Or.inl ⟨by rfl,?_⟩) ?_
  rotate_left
  ·(intro w' hSw;go_simp;try with_reducible rfl)
  simp only [Act.put,yB,yC,yD]
  refine wpAnyT_take 10 (some 17) ?_ rfl rfl (by kernel_rfl) (fun _ _ _ h=>h) hS0 (Or.inl ⟨by rfl,?_⟩) ?_
  rotate_left
  ·(intro w' hSw;go_simp;try with_reducible rfl)
  simp only [Act.put,yB,yC,yD]
  refine wpAnyT_take 11 (some 18) ?_ rfl rfl (by kernel_rfl) (fun _ _ _ h=>h) hS0 (Or.inl ⟨by rfl,?_⟩) ?_
  rotate_left
  ·(intro w' hSw;go_simp;try with_reducible rfl)
  simp only [Act.put,yB,yC,yD]
  refine wpAnyT_take 12 (some 19) ?_ rfl rfl (by kernel_rfl) (fun _ _ _ h=>h) hS0 (Or.inl ⟨by rfl,?_⟩) ?_
  rotate_left
  ·(intro w' hSw;go_simp;try with_reducible rfl)
  simp only [Act.put,yB,yC,yD]
  refine wpAnyT_take 13 (some 20) ?_ rfl rfl (by kernel_rfl) (fun _ _ _ h=>h) hS0 (Or.inl ⟨by rfl,?_⟩) ?_
  rotate_left
  ·(intro w' hSw;go_simp;try with_reducible rfl)
  simp only [Act.put,yB,yC,yD]
  refine wpAnyT_take 14 (some 21) ?_ rfl rfl (by kernel_rfl) (fun _ _ _ h=>h) hS0 (Or.inl ⟨by rfl,?_⟩) ?_
  rotate_left
  ·(intro w' hSw;go_simp;try with_reducible rfl)
  simp only [Act.put,yB,yC,yD]
  refine wpAnyT_one 15 rfl (by kernel_rfl) rfl ?_
  intro K hK
  go_simp
  go_at_call 64
  rw [HE2.out]
  refine HOP.out.mono ?_
  rintro e w1 ⟨rfl,hm1⟩
  exact ⟨rfl,fin hR ⟨((Mod.refl No w).drew.trans hm1).weaken fun _ _ f=>f.elim,.inr ⟨rfl,fun _ _ e=>by cases e⟩⟩⟩
 | some q =>
  obtain ⟨t,rs,beh⟩:=q
  rw [hrd] at HO hR
  have HOP:=zh HO
  clear HO hrd
  go_enter func63,ntmps63
  go_upto_region 0 with fail
  refine wp_region_T (fun w'=>w'.cell? ⟨lv,0,none⟩=some (.pointer (some ⟨p,0,none⟩))/\w'.cell? ⟨p,1,none⟩=some (.int .u64 (L.turn:Int))/\w'.cell? ⟨p,2,none⟩=some (.int .u64 (L.next:Int))/\w'.cell? ⟨p,3,none⟩=some (.int .i64 (L.at_:Int))) 22 (by kernel_rfl) ?_
  refine wpAnyT_take 0 (some 7) ?_ rfl rfl (by kernel_rfl) (fun _ _ _ h=>h) hS0 (Or.inl ⟨by rfl,?_⟩) ?_
  rotate_left
  ·(intro w' hSw;go_simp;try with_reducible rfl)
  simp only [Act.put,yB,yC,yD]
  refine wpAnyT_take 1 (some 8) ?_ rfl rfl (by kernel_rfl) (fun _ _ _ h=>h) hS0 (Or.inl ⟨by rfl,?_⟩) ?_
  rotate_left
  ·(intro w' hSw;go_simp;try with_reducible rfl)
  simp only [Act.put,yB,yC,yD]
  refine wpAnyT_take 2 (some 9) ?_ rfl rfl (by kernel_rfl) (fun _ _ _ h=>h) hS0 (Or.inl ⟨by rfl,?_⟩) ?_
  rotate_left
  ·(intro w' hSw;go_simp;try with_reducible rfl)
  simp only [Act.put,yB,yC,yD]
  refine wpAnyT_take 3 (some 10) ?_ rfl rfl (by kernel_rfl) (fun _ _ _ h=>h) hS0 (Or.inl ⟨by rfl,?_⟩) ?_
  rotate_left
  ·(intro w' hSw;go_simp;try with_reducible rfl)
  simp only [Act.put,yB,yC,yD]
  refine wpAnyT_take 4 (some 11) ?_ rfl rfl (by kernel_rfl) (fun _ _ _ h=>h) hS0 (Or.inl ⟨by rfl,?_⟩) ?_
  rotate_left
  ·(intro w' hSw;go_simp;try with_reducible rfl)
  simp only [Act.put,yB,yC,yD]
  refine wpAnyT_take 5 (some 12) ?_ rfl rfl (by kernel_rfl) (fun _ _ _ h=>h) hS0 (Or.inl ⟨by rfl,?_⟩) ?_
  rotate_left
  ·(intro w' hSw;go_simp;try with_reducible rfl)
  simp only [Act.put,yB,yC,yD]
  refine wpAnyT_take 6 (some 13) ?_ rfl rfl (by kernel_rfl) (fun _ _ _ h=>h) hS0 (Or.inl ⟨by rfl,?_⟩) ?_
  rotate_left
  ·(intro w' hSw;go_simp;try with_reducible rfl)
  simp only [Act.put,yB,yC,yD]
  refine wpAnyT_take 7 (some 14) ?_ rfl rfl (by kernel_rfl) (fun _ _ _ h=>h) hS0 (Or.inl ⟨by rfl,?_⟩) ?_
  rotate_left
  ·(intro w' hSw;go_simp;try with_reducible rfl)
  simp only [Act.put,yB,yC,yD]
  refine wpAnyT_take 8 (some 15) ?_ rfl rfl (by kernel_rfl) (fun _ _ _ h=>h) hS0 (Or.inl ⟨by rfl,?_⟩) ?_
  rotate_left
  ·(intro w' hSw;go_simp;try with_reducible rfl)
  simp only [Act.put,yB,yC,yD]
  refine wpAnyT_take 9 (some 16) ?_ rfl rfl (by kernel_rfl) (fun _ _ _ h=>h) hS0 (Or.inl ⟨by rfl,?_⟩) ?_
  rotate_left
  ·(intro w' hSw;go_simp;try with_reducible rfl)
  simp only [Act.put,yB,yC,yD]
  refine wpAnyT_take 10 (some 17) ?_ rfl rfl (by kernel_rfl) (fun _ _ _ h=>h) hS0 (Or.inl ⟨by rfl,?_⟩) ?_
  rotate_left
  ·(intro w' hSw;go_simp;try with_reducible rfl)
  simp only [Act.put,yB,yC,yD]
  refine wpAnyT_take 11 (some 18) ?_ rfl rfl (by kernel_rfl) (fun _ _ _ h=>h) hS0 (Or.inl ⟨by rfl,?_⟩) ?_
  rotate_left
  ·(intro w' hSw;go_simp;try with_reducible rfl)
  simp only [Act.put,yB,yC,yD]
  refine wpAnyT_take 12 (some 19) ?_ rfl rfl (by kernel_rfl) (fun _ _ _ h=>h) hS0 (Or.inl ⟨by rfl,?_⟩) ?_
  rotate_left
  ·(intro w' hSw;go_simp;try with_reducible rfl)
  simp only [Act.put,yB,yC,yD]
  refine wpAnyT_take 13 (some 20) ?_ rfl rfl (by kernel_rfl) (fun _ _ _ h=>h) hS0 (Or.inl ⟨by rfl,?_⟩) ?_
  rotate_left
  ·(intro w' hSw;go_simp;try with_reducible rfl)
  simp only [Act.put,yB,yC,yD]
  refine wpAnyT_take 14 (some 21) ?_ rfl rfl (by kernel_rfl) (fun _ _ _ h=>h) hS0 (Or.inl ⟨by rfl,?_⟩) ?_
  rotate_left
  ·(intro w' hSw;go_simp;try with_reducible rfl)
  simp only [Act.put,yB,yC,yD]
  refine wpAnyT_one 15 rfl (by kernel_rfl) rfl ?_
  intro K hK
  go_simp
  go_at_call 64
  rw [HE2.out]
  refine HOP.out.mono ?_
  rintro e w1 ⟨⟨v,rfl,hrecs⟩,hm1⟩
  have hS1:w1.cell? ⟨lv,0,none⟩=some (.pointer (some ⟨p,0,none⟩))/\w1.cell? ⟨p,1,none⟩=some (.int .u64 (L.turn:Int))/\w1.cell? ⟨p,2,none⟩=some (.int .u64 (L.next:Int))/\w1.cell? ⟨p,3,none⟩=some (.int .i64 (L.at_:Int)):=⟨hm1.cell hS0.1 (fun f=>f),hm1.cell hS0.2.1 (fun f=>f),hm1.cell hS0.2.2.1 (fun f=>f),hm1.cell hS0.2.2.2 (fun f=>f)⟩
  show K _ _
  refine hK.out _ _ (fun _=>hS1) ?_
  clear hK K
  refine wpAnyT_take 16 (some 6) ?_ rfl rfl (by kernel_rfl) (fun _ _ _ h=>h) hS1 (Or.inl ⟨by rfl,?_⟩) ?_
  rotate_left
  ·(intro w' hSw;go_simp;try with_reducible rfl)
  simp only [Act.put,yB,yC,yD]
  refine wpAnyT_take 17 (some 23) ?_ rfl rfl (by kernel_rfl) (fun _ _ _ h=>h) hS1 (Or.inl ⟨by rfl,?_⟩) ?_
  rotate_left
  ·(intro w' hSw;go_simp;try with_reducible rfl)
  simp only [Act.put,yB,yC,yD]
  refine wpAnyT_take 18 (some 24) ?_ rfl rfl (by kernel_rfl) (fun _ _ _ h=>h) hS1 (Or.inl ⟨by rfl,?_⟩) ?_
  rotate_left
  ·(intro w' hSw;go_simp;try with_reducible rfl)
  simp only [Act.put,yB,yC,yD]
  refine wpAnyT_take 19 (some 25) ?_ rfl rfl (by kernel_rfl) (fun _ _ _ h=>h) hS1 (Or.inl ⟨by rfl,?_⟩) ?_
  rotate_left
  ·(intro w' hSw;go_simp;try with_reducible rfl)
  simp only [Act.put,yB,yC,yD]
  refine wpAnyT_take 20 (some 3) ?_ rfl rfl (by kernel_rfl) (fun _ _ _ h=>h) hS1 (Or.inl ⟨by rfl,?_⟩) ?_
  rotate_left
  ·(intro w' hSw;go_simp;try with_reducible rfl)
  simp only [Act.put,yB,yC,yD]
  refine wpAnyT_take 21 (some 4) ?_ rfl rfl (by kernel_rfl) (fun _ _ _ h=>h) hS1 (Or.inl ⟨by rfl,?_⟩) ?_
  rotate_left
  ·(intro w' hSw;go_simp;try with_reducible rfl)
  simp only [Act.put,yB,yC,yD]
  refine wpAnyT_one 22 rfl (by kernel_rfl) rfl ?_
  intro K hK
  go_simp
  show K _ _
  refine hK.out _ _ (fun h=>absurd rfl h) ?_
  clear hK K
  refine wpAnyT_done (by kernel_rfl) ?_ _
  have p1:=hS1.2.1
  have l1:=hS1.1
  have MW:=zh ((Mod.refl No w).drew.trans hm1)
  obtain ⟨vs9,-,e29,-⟩:=hrecs.row
  obtain ⟨va,vc,rfl⟩:=own_len e29
  have HRE:=zh hrecs
  clear e29 vs9
  clear hS1 hm1 hrecs HOP
  by_cases ht:t=L.turn
  ·subst ht
   have hrv1:=MW.out.keep HRV.out (fun f=>f)
   have hbv1:=MW.out.keep HBV.out (fun f=>f)
   have rc:=cell_of (i:=0) hrv1 rfl
   have rf:=frozen_of 0 hrv1
   have m2:Mod (fun q=>q=rv) w1 (w1.setCell ⟨rv,0,none⟩ (.slice va rs.length vc)):=(Mod.refl (fun q=>q=rv) w1).setCell (fun _=>rfl) _
   have hb2:=m2.keep hbv1 (Ne.symm HRB.out)
   have bc:=cell_of (i:=0) hb2 rfl
   have bf:=frozen_of 0 hb2
   have hr2:=heap_setCell hrv1 (i:=0) (.slice va rs.length vc)
   have m3:Mod (fun q=>q=bv') (w1.setCell ⟨rv,0,none⟩ (.slice va rs.length vc)) ((w1.setCell ⟨rv,0,none⟩ (.slice va rs.length vc)).setCell ⟨bv',0,none⟩ (.int .i64 (beh:Int))):=(Mod.refl (fun q=>q=bv') _).setCell (fun _=>rfl) _
   have R1:=zh (m3.keep hr2 HRB.out)
   have R2:=zh (heap_setCell hb2 (i:=0) (.int .i64 (beh:Int)))
   have m4:Mod (fun q=>q=rv\/q=bv') w1 ((w1.setCell ⟨rv,0,none⟩ (.slice va rs.length vc)).setCell ⟨bv',0,none⟩ (.int .i64 (beh:Int))):=((Mod.refl (fun q=>q=rv\/q=bv') w1).setCell (fun _=>.inl rfl) _).setCell (fun _=>.inr rfl) _
   have R3:=zh ((MW.out.weaken (T:=fun q=>q=rv\/q=bv') fun _ _ f=>f.elim).trans m4)
   have R4:=zh (show OwnRecs ((w1.setCell ⟨rv,0,none⟩ (.slice va rs.length vc)).setCell ⟨bv',0,none⟩ (.int .i64 (beh:Int))) w.heap.size (.slice va rs.length vc) rs by
    obtain ⟨vs,e1,e2,e3⟩:=HRE.out.row
    have hlt1:=lt_of_heap HRV.out
    have hlt2:=lt_of_heap HBV.out
    refine ⟨vs,e1,own_keepM e2 m4 (fun k hk e=>?_),fun j u r hu hr=>(e3 j u r hu hr).keep m4 fun k cur fz e hx=>absurd (show k < w.heap.size by rcases e with e | e <;> omega) hx⟩
    have:=(e2.lt k hk).1
    rcases e with e | e
    ·have:w.heap.size<=k:=this
     omega
    ·have:w.heap.size<=k:=this
     omega)
   clear hrv1 hbv1 m2 hb2 hr2 m3 m4
   go_wp2_with fail
   refine (must_yes 0 _).mono ?_
   rintro e w3 ⟨rfl,h3⟩
   subst h3
   go_wp2_with fail
   go_end0
   exact fin hR ⟨R3.out,.inl ⟨rfl,rs,beh,_,rfl,R1.out,R4.out,R2.out⟩⟩
  ·have hte:((t:Int) == (L.turn:Int))=false:=by simp;omega
   go_wp2_with fail
   refine (must_no _).mono ?_
   rintro e w3 ⟨rfl,h3⟩
   subst h3
   go_wp2_with fail
   exact ⟨rfl,fin hR ⟨MW.out.weaken fun _ _ f=>f.elim,.inr ⟨rfl,fun _ _ e=>by cases e;exact ht rfl⟩⟩⟩
def bgK (S:Nat->List UInt8) (h size:Nat):Nat->Bool × Nat
 | 0=>(false,0)
 | k+1=>bgStep S h size (bgK S h size k) k
theorem firstT_lt {S:Nat->List UInt8} {h size side t:Nat} (hs:0 < size) (e:firstT S h size side=some t):t < 18446744073709551616:=by
 unfold firstT at e
 split at e
 ·rename_i hrd
  split at e
  ·cases e;exact rd_turn hs hrd
  ·cases e
 ·cases e
theorem bgK_lt {S:Nat->List UInt8} {h size:Nat} (hs:0 < size):∀ k,(bgK S h size k).2 < 18446744073709551616
 | 0=>by show 0 < 18446744073709551616;omega
 | k+1=>by
  show (bgStep S h size (bgK S h size k) k).2 < _
  unfold bgStep
  split
  ·rename_i t ht
   split
   ·exact firstT_lt hs ht
   ·exact bgK_lt hs k
  ·exact bgK_lt hs k
theorem later_is (t p:Nat) (ht:t < 18446744073709551616) (hp:p < 18446744073709551616):later t p=decide (0 < wrap64 (IntKind.u64.wrap ((t:Int) - (p:Int)))):=by
 unfold later wrap64
 rw [IntKind.wrap_u64,Bool.eq_iff_iff,decide_eq_true_iff,decide_eq_true_iff]
 omega
set_option maxRecDepth 100000 in
set_option maxHeartbeats 4000000 in
theorem begin_any {b sb mb p ub:Nat} {d:Dk} {w:World} (hz:128<=d.sz) (hw:Well d) (h:DkAt w No b sb mb d) (hpo:¬ Own3 b sb mb p) (hp:w.heap[p]? = some (LgObj b ub 0 0 0 0)) :
  Calls prog 61 #[.pointer (some ⟨p,0,none⟩)] w fun e w'=>e=.returned (.int .i64 0)/\w'.heap[p]? = some (LgObj b ub (turnOf d.last (d.n / 2) (d.sz - 16)) 0 0 0)/\Mod (fun q=>q=p) w w':=by
 refine calls_hide fun R hR=>?_
 have HD:=zh h
 have HW:=zh hw
 have HP:=zh hp
 have HPO:=zh hpo
 have hmf:∀ (fn:Fn) (first cap:Array Value) (w:World),(Instr.makeFunc fn first cap).run prog w=.ok (.func fn first cap) w:=fun _ _ _ _=>rfl
 have hsz:0 < d.sz - 16:=by omega
 obtain ⟨lv,hlv⟩:∃ lv,lv=w.heap.size:=⟨_,rfl⟩
 obtain ⟨w1,hw1⟩:∃ w1,w1=w.alloc (.cells #[.pointer (some ⟨p,0,none⟩)] 68):=⟨_,rfl⟩
 have hl1:w1.heap[lv]? = some (.cells #[.pointer (some ⟨p,0,none⟩)] 68 (0,0)):=by rw [hw1];exact heap_at_new w _ hlv
 have hm1:Mod (fun q=>q=p) w w1:=by rw [hw1];exact (Mod.refl _ w).alloc _
 have hp1:w1.heap[p]? = some (LgObj b ub 0 0 0 0):=by rw [hw1];exact heap_alloc_old _ hp
 have HL1:=zh hl1
 have HM1:=zh hm1
 have HP1:=zh hp1
 have HLP:=zh (show ¬ lv=p from fun e=>by have:=lt_of_heap hp;omega)
 have HLV:=zh hlv
 have HW1:=zh hw1
 clear h hw hp hpo hw1 hl1 hm1 hp1 hlv
 go_enter func61,ntmps61
 go_wp2_with fail
 rw [<- HW1.out,<- HLV.out]
 go_loopw [3,8] (fun fo i wr=>∃ k:Nat,k<=2/\i=.int .i64 k/\fo=.bool (bgK d.last (d.n / 2) (d.sz - 16) k).1/\wr.heap[p]? = some (LgObj b ub (bgK d.last (d.n / 2) (d.sz - 16) k).2 0 0 0)/\wr.heap[lv]? = some (.cells #[.pointer (some ⟨p,0,none⟩)] 68 (0,0))/\Mod (fun q=>q=p) w wr) (fun _ i _=>2 - (intOf i).toNat)
 case atStart=>exact ⟨0,by omega,rfl,rfl,HP1.out,HL1.out,HM1.out⟩
 case round =>
  clear HP1 HL1 HM1 HW1
  obtain ⟨k,hk,rfl,rfl,hp,hl,hm⟩:=hrel
  have hk0:(0:Int)<=(k:Int):=Int.natCast_nonneg _
  by_cases hk2:k < 2
  ·have hk1:(k:Int) < 2:=by omega
   have hpb:=bgK_lt (S:=d.last) (h:=d.n / 2) hsz k
   obtain ⟨pf,pt,hpk⟩:∃ pf pt,bgK d.last (d.n / 2) (d.sz - 16) k=(pf,pt):=⟨_,_,rfl⟩
   have HNEXT:=zh (show bgK d.last (d.n / 2) (d.sz - 16) (k+1)=bgStep d.last (d.n / 2) (d.sz - 16) (pf,pt) k from by rw [<- hpk];rfl)
   rw [hpk] at hp hpb ⊢
   have hdk:DkAt wr No b sb mb d:=HD.out.keep hm (fun e=>HPO.out (.inl e.symm)) (fun e=>HPO.out (.inr (.inl e.symm))) (fun e=>HPO.out (.inr (.inr e.symm))) (fun q hq=>.inr fun cur fz e=>by subst hq;rw [HP.out] at e;cases e)
   obtain ⟨w2,hw2⟩:∃ w2,w2=(wr.alloc (.cells #[.int .i64 (k:Int)] 3)).alloc (.cells #[.int .u64 0] 130):=⟨_,rfl⟩
   have m2:Mod No wr w2:=by rw [hw2];exact ((Mod.refl No wr).alloc _).alloc _
   have hs2:w2.heap[wr.heap.size]? = some (.cells #[.int .i64 (k:Int)] 3 (0,0)):=by rw [hw2];exact heap_alloc_old _ (heap_alloc_new wr _)
   have ht2:w2.heap[wr.heap.size+1]? = some (.cells #[.int .u64 0] 130 (0,0)):=by rw [hw2];exact heap_at_new _ _ (by simp)
   have hz2:w2.heap.size=wr.heap.size+2:=by rw [hw2];simp
   have hlp:=lt_of_heap hp
   have hll:=lt_of_heap hl
   have HTRY:=try_begin (.pointer (some ⟨lv,0,none⟩)) (.pointer (some ⟨wr.heap.size,0,none⟩)) (.pointer (some ⟨wr.heap.size+1,0,none⟩)) w2 (fun q=>q=wr.heap.size+1)
    (fun w'=>∃ t:Nat,firstT d.last (d.n / 2) (d.sz - 16) k=some t/\w'.heap[wr.heap.size+1]? = some (.cells #[.int .u64 (t:Int)] 130 (0,0))) (fun _=>firstT d.last (d.n / 2) (d.sz - 16) k=none)
    (fun q e=>by omega)
    (fun w3 hm3=>begin1_any lv wr.heap.size (wr.heap.size+1) k _ hk2 hz HW.out ((hdk.stay m2).stay hm3) (cell_of (i:=0) ((m2.trans hm3).keep hp (fun f=>f)) rfl) ((m2.trans hm3).keep hl (fun f=>f)) (hm3.keep hs2 (fun f=>f)) (hm3.keep ht2 (fun f=>f)))
   have HTRY:=zh HTRY
   have HW2:=zh hw2
   have HPP:=zh hp
   have HLL:=zh hl
   have HMM:=zh hm
   have M2:=zh m2
   have HZ2:=zh hz2
   obtain ⟨tv,htv⟩:∃ tv,tv=wr.heap.size+1:=⟨_,rfl⟩
   have HTV:=zh htv
   clear hdk hw2 m2 hs2 ht2 hz2 hp hl hm hpk htv
   go_wp2_with fail
   rw [<- HW2.out]
   refine HTRY.out.mono ?_
   clear HTRY
   rintro e w5 ⟨w4,hm4,-,hm5,hcase⟩
   have hz2:=HZ2.out
   have hp4:=hm4.keep (M2.out.keep HPP.out (fun f=>f)) (by omega)
   have hl4:=hm4.keep (M2.out.keep HLL.out (fun f=>f)) (by omega)
   have hz4:=hm4.size
   have hp5:=hm5.keep hp4 (by omega)
   have hl5:=hm5.keep hl4 (by omega)
   have M5:=zh (show Mod (fun q=>q=p) wr w5 from ((M2.out.weaken fun _ _ f=>f.elim).then hm4 fun i hi e=>by omega).then hm5 fun i hi e=>by omega)
   have p1:=cell_of (i:=1) hp5 rfl
   have l0:=cell_of (i:=0) hl5 rfl
   have pfz:=frozen_of 1 hp5
   have HP5:=zh hp5
   have HL5:=zh hl5
   rcases hcase with ⟨rfl,t,hft,ht4⟩ | ⟨rfl,hno⟩
   ·have ht5:=hm5.keep ht4 (by omega)
    have t0:=cell_of (i:=0) ht5 rfl
    have htb:=firstT_lt hsz hft
    have HFT:=zh hft
    clear hm4 hm5 hp4 hl4 hp5 hl5 ht4 ht5 hft hz2 hz4 hlp hll
    cases pf with
    | false =>
     go_upto_region 9 with fail
     go_quiet (fail)
     go_wp2_with fail
     have hb:bgK d.last (d.n / 2) (d.sz - 16) (k+1)=(true,t):=by rw [HNEXT.out];unfold bgStep;rw [HFT.out];rfl
     exact ⟨⟨k+1,by omega,by go_num,by rw [hb],by rw [hb,heap_setCell (show (World.drewN w5 _).heap[p]? = _ from HP5.out)];rfl,by rw [heap_setCell_ne _ HLP.out];exact HL5.out,((HMM.out.trans M5.out).drewN _).setCell (fun _=>rfl) _⟩,by go_light;simp only [intOf];omega⟩
    | true =>
     have hli:=later_is t pt htb hpb
     by_cases hlat:later t pt=true
     ·rw [hlat] at hli
      have hpos:0 < wrap64 (IntKind.u64.wrap ((t:Int) - (pt:Int))):=of_decide_eq_true hli.symm
      have HLAT:=zh hlat
      clear hli hlat
      go_upto_region 9 with fail
      go_quiet (fail)
      go_wp2_with fail
      have hb:bgK d.last (d.n / 2) (d.sz - 16) (k+1)=(true,t):=by rw [HNEXT.out];unfold bgStep;rw [HFT.out];dsimp only;rw [HLAT.out];rfl
      exact ⟨⟨k+1,by omega,by go_num,by rw [hb],by rw [hb,heap_setCell (show (World.drewN w5 _).heap[p]? = _ from HP5.out)];rfl,by rw [heap_setCell_ne _ HLP.out];exact HL5.out,((HMM.out.trans M5.out).drewN _).setCell (fun _=>rfl) _⟩,by go_light;simp only [intOf];omega⟩
     ·have hlat:later t pt=false:=by simpa using hlat
      rw [hlat] at hli
      have hneg:wrap64 (IntKind.u64.wrap ((t:Int) - (pt:Int)))<=0:=Int.not_lt.1 (of_decide_eq_false hli.symm)
      have HLAT:=zh hlat
      clear hli hlat
      go_upto_region 9 with fail
      go_quiet (fail)
      go_wp2_with fail
      have hb:bgK d.last (d.n / 2) (d.sz - 16) (k+1)=(true,pt):=by rw [HNEXT.out];unfold bgStep;rw [HFT.out];dsimp only;rw [HLAT.out];rfl
      exact ⟨⟨k+1,by omega,by go_num,by rw [hb],by rw [hb];exact HP5.out,HL5.out,(HMM.out.trans M5.out).drewN _⟩,by go_light;simp only [intOf];omega⟩
   ·have HNO:=zh hno
    clear hm4 hm5 hp4 hl4 hp5 hl5 hno hz2 hz4 hlp hll
    go_upto_region 9 with fail
    go_quiet (fail)
    go_wp2_with fail
    have hb:bgK d.last (d.n / 2) (d.sz - 16) (k+1)=(pf,pt):=by rw [HNEXT.out];unfold bgStep;rw [HNO.out]
    exact ⟨⟨k+1,by omega,by go_num,by rw [hb],by rw [hb];exact HP5.out,HL5.out,(HMM.out.trans M5.out).drewN _⟩,by go_light;simp only [intOf];omega⟩
  ·have hk3:k=2:=by omega
   subst hk3
   have HPP:=zh hp
   have HMM:=zh hm
   clear hp hl hm
   go_wp2_with fail
   exact fin hR ⟨rfl,HPP.out,HMM.out⟩
end Go.Proofs.YtmppeipgjcjdkaaGreatDoor
